/- The texts of the functions, as the own machine runs them. -/
import Derived.Test.YtbfmbddafpbcpaaOMDef
set_option linter.all false
namespace Go.Proofs.Ytbfmbddafpbcpaa.OM
set_option maxRecDepth 100000

-- cmp.Compare[int]
def pb2 : PC :=
.seq (.reg [0, 1] [] [
   ⟨some 4, .mv (.c (.v false (.int .i64 0))), none⟩] none)
 (.seq (.reg [0, 1, 5] [(8, 5)] [
    ⟨some 7, .mv (.t 0), none⟩,
    ⟨some 8, .call 3 [] [(.t 7)], none⟩,
    ⟨some 5, .mv (.t 8), none⟩] none)
  (.seq (.reg [0, 1, 5, 6] [(10, 6)] [
     ⟨some 9, .mv (.t 1), none⟩,
     ⟨some 10, .call 3 [] [(.t 9)], none⟩,
     ⟨some 6, .mv (.t 10), none⟩] none)
   (.seq (.seq (.reg [0, 1, 5, 6, 11] [] [
       ⟨some 11, .mv (.t 5), none⟩] none)
     (.cond (.t 11) (.seq (.seq (.reg [6, 12] [] [
          ⟨some 12, .mv (.t 6), none⟩] none)
        (.cond (.t 12) (.seq (.reg [4] [] [
            ⟨some 4, .mv (.c (.v false (.int .i64 0))), none⟩] none)
          (.ret))
         (.skip)))
       (.seq (.reg [4] [] [
          ⟨some 4, .mv (.c (.v false (.int .i64 (-1)))), none⟩] none)
        (.ret)))
      (.skip)))
    (.seq (.seq (.reg [0, 1, 6, 13] [] [
        ⟨some 13, .mv (.t 6), none⟩] none)
      (.cond (.t 13) (.seq (.reg [4] [] [
          ⟨some 4, .mv (.c (.v false (.int .i64 1))), none⟩] none)
        (.ret))
       (.skip)))
     (.seq (.seq (.reg [0, 1, 16] [] [
         ⟨some 14, .mv (.t 0), none⟩,
         ⟨some 15, .mv (.t 1), none⟩,
         ⟨some 16, .bin .lss (.t 14) (.t 15), none⟩] none)
       (.cond (.t 16) (.seq (.reg [4] [] [
           ⟨some 4, .mv (.c (.v false (.int .i64 (-1)))), none⟩] none)
         (.ret))
        (.skip)))
      (.seq (.seq (.reg [19] [] [
          ⟨some 17, .mv (.t 0), none⟩,
          ⟨some 18, .mv (.t 1), none⟩,
          ⟨some 19, .bin .gtr (.t 17) (.t 18), none⟩] none)
        (.cond (.t 19) (.seq (.reg [4] [] [
            ⟨some 4, .mv (.c (.v false (.int .i64 1))), none⟩] none)
          (.ret))
         (.skip)))
       (.seq (.reg [4] [] [
          ⟨some 4, .mv (.c (.v false (.int .i64 0))), none⟩] none)
        (.ret))))))))

def pf2 : PF := ⟨[.s 4], [], pb2⟩

-- cmp.isNaN[int]
def pb3 : PC :=
.seq (.reg [0] [] [
   ⟨some 2, .mv (.c (.v false (.bool false))), none⟩] none)
 (.seq (.reg [2] [] [
    ⟨some 3, .mv (.t 0), none⟩,
    ⟨some 4, .mv (.t 0), none⟩,
    ⟨some 5, .bin .neq (.t 3) (.t 4), none⟩,
    ⟨some 2, .mv (.t 5), none⟩] none)
  (.ret))

def pf3 : PF := ⟨[.s 2], [], pb3⟩

-- loop.example/g00496/impl.Order
def pl36_0 : PC :=
.seq (.reg [1, 3, 7, 8, 9, 10] [] [
         ⟨some 10, .bin .lss (.t 9) (.t 8), none⟩] none)
       (.seq (.cond (.t 10) (.skip)
         (.exit 0))
        (.seq (.blk 1 (.seq (.reg [1, 3, 4, 5, 7, 8, 9] [] [
             ⟨some 11, .mv (.t 9), none⟩,
             ⟨some 12, .iad 25 (.t 7) (.t 9), none⟩,
             ⟨some 13, .ld true 25 (.t 12), none⟩,
             ⟨some 5, .alloc [(.v false (.int .i64 0)), (.v false (.int .i64 0)), (.nl 3), (.v false (.int .i64 0)), (.v false (.int .i64 0)), (.v false (.int .i64 0)), (.v false (.int .i64 0)), (.v false (.int .i64 0)), (.v false (.int .i64 0)), (.v false (.int .i64 0)), (.v false (.str ⟨#[]⟩)), (.nl 7), (.v false (.int .i64 0)), (.nl 1), (.nl 2), (.v false (.int .i64 0)), (.v false (.bool false)), (.v false (.int .i64 0)), (.v false (.int .i64 0)), (.v false (.str ⟨#[]⟩)), (.v false (.int .i64 0)), (.v false (.int .i64 0)), (.v false (.int .i64 0)), (.v false (.int .i64 0)), (.v false (.int .i64 0))], none⟩,
             ⟨some 4, .mv (.t 11), none⟩,
             ⟨none, .st 25 (.t 5) (.t 13), none⟩] none)
           (.seq (.reg [1, 3, 4, 7, 8, 9, 16] [] [
              ⟨some 14, .fad (.t 5) 23, none⟩,
              ⟨some 15, .ld false 1 (.t 14), none⟩,
              ⟨some 16, .bin .neq (.t 15) (.c (.v false (.int .i64 (-1)))), none⟩] none)
            (.cond (.t 16) (.reg [1, 3, 7, 8, 9] [(20, 3)] [
               ⟨some 17, .mv (.t 3), none⟩,
               ⟨some 18, .mv (.t 4), none⟩,
               ⟨some 19, .bsl 1 [.int .i64 0] 1 [(0, (.t 18))], none⟩,
               ⟨some 20, .app 1 8 (.t 17) (.t 19), none⟩,
               ⟨some 3, .mv (.t 20), none⟩] none)
             (.skip)))))
         (.reg [1, 3, 7, 8, 9] [] [
           ⟨some 21, .bin .add (.t 9) (.c (.v false (.int .i64 1))), none⟩,
           ⟨some 9, .mv (.t 21), none⟩] none)))

def pb36 : PC :=
.seq (.reg [1] [] [
   ⟨some 1, .box 1 (.t 0), none⟩,
   ⟨some 2, .mv (.c (.nl 1)), none⟩] none)
 (.seq (.reg [1, 3] [(6, 3)] [
    ⟨some 6, .bsl 1 [] 0 [], none⟩,
    ⟨some 3, .mv (.t 6), none⟩] none)
  (.seq (.seq (.reg [1, 3, 7, 8, 9] [] [
      ⟨some 7, .ld false 1 (.t 1), none⟩,
      ⟨some 8, .len (.t 7), none⟩,
      ⟨some 9, .mv (.c (.v false (.int .i64 0))), none⟩] none)
    (.blk 0 (.loop pl36_0)))
   (.seq (.reg [3] [] [
      ⟨some 22, .mv (.t 3), none⟩,
      ⟨some 23, .mkf 37 (.t 1), none⟩,
      ⟨some 24, .call 405 [0] [(.t 22), (.t 23)], none⟩] none)
    (.seq (.reg [2, 3] [] [
       ⟨some 25, .mv (.t 3), none⟩,
       ⟨some 2, .mv (.t 25), none⟩] none)
     (.ret)))))

def pf36 : PF := ⟨[.s 2], [], pb36⟩

-- loop.example/g00496/impl.Order$1
def pb37 : PC :=
.seq (.reg [0, 1, 2] [] [
   ⟨some 5, .mv (.c (.v false (.int .i64 0))), none⟩] none)
 (.seq (.reg [5] [(16, 5)] [
    ⟨some 6, .ld false 1 (.t 2), none⟩,
    ⟨some 7, .mv (.t 0), none⟩,
    ⟨some 8, .iad 25 (.t 6) (.t 7), none⟩,
    ⟨some 9, .fad (.t 8) 23, none⟩,
    ⟨some 10, .ld false 1 (.t 9), none⟩,
    ⟨some 11, .ld false 1 (.t 2), none⟩,
    ⟨some 12, .mv (.t 1), none⟩,
    ⟨some 13, .iad 25 (.t 11) (.t 12), none⟩,
    ⟨some 14, .fad (.t 13) 23, none⟩,
    ⟨some 15, .ld false 1 (.t 14), none⟩,
    ⟨some 16, .call 2 [] [(.t 10), (.t 15)], none⟩,
    ⟨some 5, .mv (.t 16), none⟩] (some []))
  (.ret))

def pf37 : PF := ⟨[.s 5], [], pb37⟩

-- loop.example/g00496/laws.FnExactOrder
def pb117 : PC :=
.seq (.reg [0] [] [
   ⟨some 2, .mv (.c (.v false (.bool false))), none⟩] none)
 (.seq (.reg [0, 3] [] [
    ⟨some 3, .mv (.c (.v false (.int .i64 1048576))), none⟩] none)
  (.seq (.reg [0, 3] [(13, 3)] [
     ⟨some 11, .mv (.t 0), none⟩,
     ⟨some 12, .mv (.t 3), none⟩,
     ⟨some 13, .call 217 [] [(.t 11), (.t 12)], none⟩,
     ⟨some 3, .mv (.t 13), none⟩] none)
   (.seq (.seq (.reg [0, 15] [] [
       ⟨some 14, .mv (.t 3), none⟩,
       ⟨some 15, .bin .lss (.t 14) (.c (.v false (.int .i64 0))), none⟩] none)
     (.cond (.t 15) (.seq (.reg [2] [] [
         ⟨some 2, .mv (.c (.v false (.bool true))), none⟩] none)
       (.ret))
      (.skip)))
    (.seq (.reg [0, 4] [(18, 4)] [
       ⟨some 16, .mv (.t 0), none⟩,
       ⟨some 17, .call 242 [] [(.t 16)], none⟩,
       ⟨some 18, .call 317 [] [(.t 17)], none⟩,
       ⟨some 4, .mv (.t 18), none⟩] none)
     (.seq (.reg [0, 4, 5] [(20, 5)] [
        ⟨some 19, .mv (.t 0), none⟩,
        ⟨some 20, .call 242 [] [(.t 19)], none⟩,
        ⟨some 5, .mv (.t 20), none⟩] none)
      (.seq (.reg [0, 4, 5, 6] [(22, 6)] [
         ⟨some 21, .mv (.t 5), none⟩,
         ⟨some 22, .call 36 [] [(.t 21)], none⟩,
         ⟨some 6, .mv (.t 22), none⟩] none)
       (.seq (.seq (.reg [0, 4, 5, 6, 26] [] [
           ⟨some 23, .mv (.t 6), none⟩,
           ⟨some 24, .mv (.t 4), none⟩,
           ⟨some 25, .call 152 [] [(.t 23), (.t 24)], none⟩,
           ⟨some 26, .un .not (.t 25), none⟩] none)
         (.cond (.t 26) (.seq (.reg [2] [] [
             ⟨some 2, .mv (.c (.v false (.bool false))), none⟩] none)
           (.ret))
          (.skip)))
        (.seq (.seq (.reg [0, 4, 5, 6, 31] [] [
            ⟨some 27, .mv (.t 5), none⟩,
            ⟨some 28, .mv (.t 0), none⟩,
            ⟨some 29, .call 242 [] [(.t 28)], none⟩,
            ⟨some 30, .call 150 [] [(.t 27), (.t 29)], none⟩,
            ⟨some 31, .un .not (.t 30), none⟩] none)
          (.cond (.t 31) (.seq (.reg [2] [] [
              ⟨some 2, .mv (.c (.v false (.bool false))), none⟩] none)
            (.ret))
           (.skip)))
         (.seq (.reg [0, 4, 5, 6, 7] [] [
            ⟨some 7, .mv (.c (.v false (.int .i64 1))), none⟩] none)
          (.seq (.reg [0, 4, 6, 7] [(34, 7)] [
             ⟨some 32, .mv (.t 5), none⟩,
             ⟨some 33, .mv (.t 7), none⟩,
             ⟨some 34, .call 188 [0] [(.t 32), (.t 33)], none⟩,
             ⟨some 7, .mv (.t 34), none⟩] none)
           (.seq (.seq (.reg [0, 4, 6, 42] [] [
               ⟨some 35, .mv (.t 7), none⟩,
               ⟨some 36, .bin .lss (.t 35) (.c (.v false (.int .i64 0))), none⟩,
               ⟨some 37, .mv (.t 36), none⟩,
               ⟨some 38, .mv (.t 6), some (37, false)⟩,
               ⟨some 39, .mv (.t 4), some (37, false)⟩,
               ⟨some 40, .call 152 [] [(.t 38), (.t 39)], some (37, false)⟩,
               ⟨some 41, .un .not (.t 40), some (37, false)⟩,
               ⟨some 42, .pick (.t 37) (.c (.v false (.bool true))) (.t 41), none⟩] none)
             (.cond (.t 42) (.seq (.reg [2] [] [
                 ⟨some 2, .mv (.c (.v false (.bool false))), none⟩] none)
               (.ret))
              (.skip)))
            (.seq (.reg [0, 4, 6, 8] [] [
               ⟨some 8, .mv (.c (.v false (.int .i64 1))), none⟩] none)
             (.seq (.reg [0, 4, 6, 8] [(45, 8)] [
                ⟨some 43, .mv (.t 6), none⟩,
                ⟨some 44, .mv (.t 8), none⟩,
                ⟨some 45, .call 190 [0] [(.t 43), (.t 44)], none⟩,
                ⟨some 8, .mv (.t 45), none⟩] none)
              (.seq (.reg [0, 4, 6, 8, 9] [] [
                 ⟨some 9, .mv (.c (.v false (.int .i64 1))), none⟩] none)
               (.seq (.reg [0, 4, 6, 8, 9] [(48, 9)] [
                  ⟨some 46, .mv (.t 6), none⟩,
                  ⟨some 47, .mv (.t 9), none⟩,
                  ⟨some 48, .call 175 [] [(.t 46), (.t 47)], none⟩,
                  ⟨some 9, .mv (.t 48), none⟩] none)
                (.seq (.seq (.reg [0, 4, 6, 8, 9, 50] [] [
                    ⟨some 49, .mv (.t 9), none⟩,
                    ⟨some 50, .bin .lss (.t 49) (.c (.v false (.int .i64 0))), none⟩] none)
                  (.cond (.t 50) (.seq (.reg [2] [] [
                      ⟨some 2, .mv (.c (.v false (.bool false))), none⟩] none)
                    (.ret))
                   (.skip)))
                 (.seq (.seq (.reg [0, 4, 6, 8, 53] [] [
                     ⟨some 51, .mv (.t 9), none⟩,
                     ⟨some 52, .mv (.t 8), none⟩,
                     ⟨some 53, .bin .neq (.t 51) (.t 52), none⟩] none)
                   (.cond (.t 53) (.seq (.reg [2] [] [
                       ⟨some 2, .mv (.c (.v false (.bool false))), none⟩] none)
                     (.ret))
                    (.skip)))
                  (.seq (.reg [4, 6, 8, 10] [(56, 10)] [
                     ⟨some 54, .mv (.t 0), none⟩,
                     ⟨some 55, .call 242 [] [(.t 54)], none⟩,
                     ⟨some 56, .call 36 [] [(.t 55)], none⟩,
                     ⟨some 10, .mv (.t 56), none⟩] none)
                   (.seq (.seq (.reg [6, 8, 60] [] [
                       ⟨some 57, .mv (.t 10), none⟩,
                       ⟨some 58, .mv (.t 4), none⟩,
                       ⟨some 59, .call 152 [] [(.t 57), (.t 58)], none⟩,
                       ⟨some 60, .un .not (.t 59), none⟩] none)
                     (.cond (.t 60) (.seq (.reg [2] [] [
                         ⟨some 2, .mv (.c (.v false (.bool false))), none⟩] none)
                       (.ret))
                      (.skip)))
                    (.seq (.reg [6, 8, 9] [] [
                       ⟨some 9, .mv (.c (.v false (.int .i64 1))), none⟩] none)
                     (.seq (.reg [8, 9] [(63, 9)] [
                        ⟨some 61, .mv (.t 6), none⟩,
                        ⟨some 62, .mv (.t 9), none⟩,
                        ⟨some 63, .call 175 [] [(.t 61), (.t 62)], none⟩,
                        ⟨some 9, .mv (.t 63), none⟩] none)
                      (.seq (.seq (.reg [8, 9, 65] [] [
                          ⟨some 64, .mv (.t 9), none⟩,
                          ⟨some 65, .bin .lss (.t 64) (.c (.v false (.int .i64 0))), none⟩] none)
                        (.cond (.t 65) (.seq (.reg [2] [] [
                            ⟨some 2, .mv (.c (.v false (.bool false))), none⟩] none)
                          (.ret))
                         (.skip)))
                       (.seq (.seq (.reg [68] [] [
                           ⟨some 66, .mv (.t 9), none⟩,
                           ⟨some 67, .mv (.t 8), none⟩,
                           ⟨some 68, .bin .neq (.t 66) (.t 67), none⟩] none)
                         (.cond (.t 68) (.seq (.reg [2] [] [
                             ⟨some 2, .mv (.c (.v false (.bool false))), none⟩] none)
                           (.ret))
                          (.skip)))
                        (.seq (.reg [2] [] [
                           ⟨some 2, .mv (.c (.v false (.bool true))), none⟩] none)
                         (.ret)))))))))))))))))))))))))

def pf117 : PF := ⟨[.s 2], [], pb117⟩

-- loop.example/g00496/laws.eqDeed
def pb149 : PC :=
.seq (.reg [2, 3] [] [
   ⟨some 2, .box 25 (.t 0), none⟩,
   ⟨some 3, .box 25 (.t 1), none⟩,
   ⟨some 4, .mv (.c (.v false (.bool false))), none⟩] none)
 (.seq (.seq (.reg [2, 3, 9] [] [
     ⟨some 5, .fad (.t 2) 0, none⟩,
     ⟨some 6, .ld false 1 (.t 5), none⟩,
     ⟨some 7, .fad (.t 3) 0, none⟩,
     ⟨some 8, .ld false 1 (.t 7), none⟩,
     ⟨some 9, .bin .neq (.t 6) (.t 8), none⟩] none)
   (.cond (.t 9) (.seq (.reg [4] [] [
       ⟨some 4, .mv (.c (.v false (.bool false))), none⟩] none)
     (.ret))
    (.skip)))
  (.seq (.seq (.reg [2, 3, 14] [] [
      ⟨some 10, .fad (.t 2) 1, none⟩,
      ⟨some 11, .ld false 1 (.t 10), none⟩,
      ⟨some 12, .fad (.t 3) 1, none⟩,
      ⟨some 13, .ld false 1 (.t 12), none⟩,
      ⟨some 14, .bin .neq (.t 11) (.t 13), none⟩] none)
    (.cond (.t 14) (.seq (.reg [4] [] [
        ⟨some 4, .mv (.c (.v false (.bool false))), none⟩] none)
      (.ret))
     (.skip)))
   (.seq (.seq (.reg [2, 3, 20] [] [
       ⟨some 15, .fad (.t 2) 2, none⟩,
       ⟨some 16, .ld false 1 (.t 15), none⟩,
       ⟨some 17, .fad (.t 3) 2, none⟩,
       ⟨some 18, .ld false 1 (.t 17), none⟩,
       ⟨some 19, .call 166 [] [(.t 16), (.t 18)], none⟩,
       ⟨some 20, .un .not (.t 19), none⟩] none)
     (.cond (.t 20) (.seq (.reg [4] [] [
         ⟨some 4, .mv (.c (.v false (.bool false))), none⟩] none)
       (.ret))
      (.skip)))
    (.seq (.seq (.reg [2, 3, 25] [] [
        ⟨some 21, .fad (.t 2) 3, none⟩,
        ⟨some 22, .ld false 1 (.t 21), none⟩,
        ⟨some 23, .fad (.t 3) 3, none⟩,
        ⟨some 24, .ld false 1 (.t 23), none⟩,
        ⟨some 25, .bin .neq (.t 22) (.t 24), none⟩] none)
      (.cond (.t 25) (.seq (.reg [4] [] [
          ⟨some 4, .mv (.c (.v false (.bool false))), none⟩] none)
        (.ret))
       (.skip)))
     (.seq (.seq (.reg [2, 3, 31] [] [
         ⟨some 26, .fad (.t 2) 4, none⟩,
         ⟨some 27, .ld true 10 (.t 26), none⟩,
         ⟨some 28, .fad (.t 3) 4, none⟩,
         ⟨some 29, .ld true 10 (.t 28), none⟩,
         ⟨some 30, .call 155 [] [(.t 27), (.t 29)], none⟩,
         ⟨some 31, .un .not (.t 30), none⟩] none)
       (.cond (.t 31) (.seq (.reg [4] [] [
           ⟨some 4, .mv (.c (.v false (.bool false))), none⟩] none)
         (.ret))
        (.skip)))
      (.seq (.seq (.reg [2, 3, 37] [] [
          ⟨some 32, .fad (.t 2) 14, none⟩,
          ⟨some 33, .ld true 6 (.t 32), none⟩,
          ⟨some 34, .fad (.t 3) 14, none⟩,
          ⟨some 35, .ld true 6 (.t 34), none⟩,
          ⟨some 36, .call 158 [] [(.t 33), (.t 35)], none⟩,
          ⟨some 37, .un .not (.t 36), none⟩] none)
        (.cond (.t 37) (.seq (.reg [4] [] [
            ⟨some 4, .mv (.c (.v false (.bool false))), none⟩] none)
          (.ret))
         (.skip)))
       (.seq (.seq (.reg [2, 3, 42] [] [
           ⟨some 38, .fad (.t 2) 20, none⟩,
           ⟨some 39, .ld false 1 (.t 38), none⟩,
           ⟨some 40, .fad (.t 3) 20, none⟩,
           ⟨some 41, .ld false 1 (.t 40), none⟩,
           ⟨some 42, .bin .neq (.t 39) (.t 41), none⟩] none)
         (.cond (.t 42) (.seq (.reg [4] [] [
             ⟨some 4, .mv (.c (.v false (.bool false))), none⟩] none)
           (.ret))
          (.skip)))
        (.seq (.seq (.reg [2, 3, 47] [] [
            ⟨some 43, .fad (.t 2) 21, none⟩,
            ⟨some 44, .ld false 1 (.t 43), none⟩,
            ⟨some 45, .fad (.t 3) 21, none⟩,
            ⟨some 46, .ld false 1 (.t 45), none⟩,
            ⟨some 47, .bin .neq (.t 44) (.t 46), none⟩] none)
          (.cond (.t 47) (.seq (.reg [4] [] [
              ⟨some 4, .mv (.c (.v false (.bool false))), none⟩] none)
            (.ret))
           (.skip)))
         (.seq (.seq (.reg [2, 3, 52] [] [
             ⟨some 48, .fad (.t 2) 22, none⟩,
             ⟨some 49, .ld false 1 (.t 48), none⟩,
             ⟨some 50, .fad (.t 3) 22, none⟩,
             ⟨some 51, .ld false 1 (.t 50), none⟩,
             ⟨some 52, .bin .neq (.t 49) (.t 51), none⟩] none)
           (.cond (.t 52) (.seq (.reg [4] [] [
               ⟨some 4, .mv (.c (.v false (.bool false))), none⟩] none)
             (.ret))
            (.skip)))
          (.seq (.seq (.reg [2, 3, 57] [] [
              ⟨some 53, .fad (.t 2) 23, none⟩,
              ⟨some 54, .ld false 1 (.t 53), none⟩,
              ⟨some 55, .fad (.t 3) 23, none⟩,
              ⟨some 56, .ld false 1 (.t 55), none⟩,
              ⟨some 57, .bin .neq (.t 54) (.t 56), none⟩] none)
            (.cond (.t 57) (.seq (.reg [4] [] [
                ⟨some 4, .mv (.c (.v false (.bool false))), none⟩] none)
              (.ret))
             (.skip)))
           (.seq (.seq (.reg [62] [] [
               ⟨some 58, .fad (.t 2) 24, none⟩,
               ⟨some 59, .ld false 1 (.t 58), none⟩,
               ⟨some 60, .fad (.t 3) 24, none⟩,
               ⟨some 61, .ld false 1 (.t 60), none⟩,
               ⟨some 62, .bin .neq (.t 59) (.t 61), none⟩] none)
             (.cond (.t 62) (.seq (.reg [4] [] [
                 ⟨some 4, .mv (.c (.v false (.bool false))), none⟩] none)
               (.ret))
              (.skip)))
            (.seq (.reg [4] [] [
               ⟨some 4, .mv (.c (.v false (.bool true))), none⟩] none)
             (.ret)))))))))))))

def pf149 : PF := ⟨[.s 4], [], pb149⟩

-- loop.example/g00496/laws.eqDeedS
def pl150_0 : PC :=
.seq (.seq (.reg [0, 1, 5, 14] [] [
          ⟨some 11, .mv (.t 5), none⟩,
          ⟨some 12, .mv (.t 0), none⟩,
          ⟨some 13, .len (.t 12), none⟩,
          ⟨some 14, .bin .lss (.t 11) (.t 13), none⟩] none)
        (.cond (.t 14) (.skip)
         (.exit 0)))
       (.seq (.blk 1 (.seq (.reg [0, 1, 5, 26] [] [
            ⟨some 17, .mv (.t 0), none⟩,
            ⟨some 18, .mv (.t 5), none⟩,
            ⟨some 19, .iad 25 (.t 17) (.t 18), none⟩,
            ⟨some 20, .ld true 25 (.t 19), none⟩,
            ⟨some 21, .mv (.t 1), none⟩,
            ⟨some 22, .mv (.t 5), none⟩,
            ⟨some 23, .iad 25 (.t 21) (.t 22), none⟩,
            ⟨some 24, .ld true 25 (.t 23), none⟩,
            ⟨some 25, .call 149 [] [(.t 20), (.t 24)], none⟩,
            ⟨some 26, .un .not (.t 25), none⟩] (some []))
          (.cond (.t 26) (.seq (.reg [4] [] [
              ⟨some 4, .mv (.c (.v false (.bool false))), none⟩] none)
            (.ret))
           (.skip))))
        (.reg [0, 1, 5] [] [
          ⟨some 15, .mv (.t 5), none⟩,
          ⟨some 16, .bin .add (.t 15) (.c (.v false (.int .i64 1))), none⟩,
          ⟨some 5, .mv (.t 16), none⟩] none))

def pb150 : PC :=
.seq (.reg [0, 1] [] [
   ⟨some 4, .mv (.c (.v false (.bool false))), none⟩] none)
 (.seq (.seq (.reg [0, 1, 10] [] [
     ⟨some 6, .mv (.t 0), none⟩,
     ⟨some 7, .len (.t 6), none⟩,
     ⟨some 8, .mv (.t 1), none⟩,
     ⟨some 9, .len (.t 8), none⟩,
     ⟨some 10, .bin .neq (.t 7) (.t 9), none⟩] none)
   (.cond (.t 10) (.seq (.reg [4] [] [
       ⟨some 4, .mv (.c (.v false (.bool false))), none⟩] none)
     (.ret))
    (.skip)))
  (.seq (.seq (.reg [0, 1, 5] [] [
      ⟨some 5, .mv (.c (.v false (.int .i64 0))), none⟩] none)
    (.blk 0 (.loop pl150_0)))
   (.seq (.reg [4] [] [
      ⟨some 4, .mv (.c (.v false (.bool true))), none⟩] none)
    (.ret))))

def pf150 : PF := ⟨[.s 4], [], pb150⟩

-- loop.example/g00496/laws.eqIntS
def pl152_0 : PC :=
.seq (.seq (.reg [0, 1, 5, 14] [] [
          ⟨some 11, .mv (.t 5), none⟩,
          ⟨some 12, .mv (.t 0), none⟩,
          ⟨some 13, .len (.t 12), none⟩,
          ⟨some 14, .bin .lss (.t 11) (.t 13), none⟩] none)
        (.cond (.t 14) (.skip)
         (.exit 0)))
       (.seq (.blk 1 (.seq (.reg [0, 1, 5, 25] [] [
            ⟨some 17, .mv (.t 0), none⟩,
            ⟨some 18, .mv (.t 5), none⟩,
            ⟨some 19, .iad 1 (.t 17) (.t 18), none⟩,
            ⟨some 20, .ld false 1 (.t 19), none⟩,
            ⟨some 21, .mv (.t 1), none⟩,
            ⟨some 22, .mv (.t 5), none⟩,
            ⟨some 23, .iad 1 (.t 21) (.t 22), none⟩,
            ⟨some 24, .ld false 1 (.t 23), none⟩,
            ⟨some 25, .bin .neq (.t 20) (.t 24), none⟩] (some []))
          (.cond (.t 25) (.seq (.reg [4] [] [
              ⟨some 4, .mv (.c (.v false (.bool false))), none⟩] none)
            (.ret))
           (.skip))))
        (.reg [0, 1, 5] [] [
          ⟨some 15, .mv (.t 5), none⟩,
          ⟨some 16, .bin .add (.t 15) (.c (.v false (.int .i64 1))), none⟩,
          ⟨some 5, .mv (.t 16), none⟩] none))

def pb152 : PC :=
.seq (.reg [0, 1] [] [
   ⟨some 4, .mv (.c (.v false (.bool false))), none⟩] none)
 (.seq (.seq (.reg [0, 1, 10] [] [
     ⟨some 6, .mv (.t 0), none⟩,
     ⟨some 7, .len (.t 6), none⟩,
     ⟨some 8, .mv (.t 1), none⟩,
     ⟨some 9, .len (.t 8), none⟩,
     ⟨some 10, .bin .neq (.t 7) (.t 9), none⟩] none)
   (.cond (.t 10) (.seq (.reg [4] [] [
       ⟨some 4, .mv (.c (.v false (.bool false))), none⟩] none)
     (.ret))
    (.skip)))
  (.seq (.seq (.reg [0, 1, 5] [] [
      ⟨some 5, .mv (.c (.v false (.int .i64 0))), none⟩] none)
    (.blk 0 (.loop pl152_0)))
   (.seq (.reg [4] [] [
      ⟨some 4, .mv (.c (.v false (.bool true))), none⟩] none)
    (.ret))))

def pf152 : PF := ⟨[.s 4], [], pb152⟩

-- loop.example/g00496/laws.eqPred
def pb153 : PC :=
.seq (.reg [2, 3] [] [
   ⟨some 2, .box 7 (.t 0), none⟩,
   ⟨some 3, .box 7 (.t 1), none⟩,
   ⟨some 4, .mv (.c (.v false (.bool false))), none⟩] none)
 (.seq (.seq (.reg [2, 3, 9] [] [
     ⟨some 5, .fad (.t 2) 0, none⟩,
     ⟨some 6, .ld false 1 (.t 5), none⟩,
     ⟨some 7, .fad (.t 3) 0, none⟩,
     ⟨some 8, .ld false 1 (.t 7), none⟩,
     ⟨some 9, .bin .neq (.t 6) (.t 8), none⟩] none)
   (.cond (.t 9) (.seq (.reg [4] [] [
       ⟨some 4, .mv (.c (.v false (.bool false))), none⟩] none)
     (.ret))
    (.skip)))
  (.seq (.seq (.reg [2, 3, 14] [] [
      ⟨some 10, .fad (.t 2) 1, none⟩,
      ⟨some 11, .ld false 1 (.t 10), none⟩,
      ⟨some 12, .fad (.t 3) 1, none⟩,
      ⟨some 13, .ld false 1 (.t 12), none⟩,
      ⟨some 14, .bin .neq (.t 11) (.t 13), none⟩] none)
    (.cond (.t 14) (.seq (.reg [4] [] [
        ⟨some 4, .mv (.c (.v false (.bool false))), none⟩] none)
      (.ret))
     (.skip)))
   (.seq (.seq (.reg [2, 3, 19] [] [
       ⟨some 15, .fad (.t 2) 2, none⟩,
       ⟨some 16, .ld false 1 (.t 15), none⟩,
       ⟨some 17, .fad (.t 3) 2, none⟩,
       ⟨some 18, .ld false 1 (.t 17), none⟩,
       ⟨some 19, .bin .neq (.t 16) (.t 18), none⟩] none)
     (.cond (.t 19) (.seq (.reg [4] [] [
         ⟨some 4, .mv (.c (.v false (.bool false))), none⟩] none)
       (.ret))
      (.skip)))
    (.seq (.seq (.reg [2, 3, 25] [] [
        ⟨some 20, .fad (.t 2) 3, none⟩,
        ⟨some 21, .ld true 3 (.t 20), none⟩,
        ⟨some 22, .fad (.t 3) 3, none⟩,
        ⟨some 23, .ld true 3 (.t 22), none⟩,
        ⟨some 24, .call 165 [] [(.t 21), (.t 23)], none⟩,
        ⟨some 25, .un .not (.t 24), none⟩] none)
      (.cond (.t 25) (.seq (.reg [4] [] [
          ⟨some 4, .mv (.c (.v false (.bool false))), none⟩] none)
        (.ret))
       (.skip)))
     (.seq (.seq (.reg [31] [] [
         ⟨some 26, .fad (.t 2) 6, none⟩,
         ⟨some 27, .ld false 1 (.t 26), none⟩,
         ⟨some 28, .fad (.t 3) 6, none⟩,
         ⟨some 29, .ld false 1 (.t 28), none⟩,
         ⟨some 30, .call 154 [] [(.t 27), (.t 29)], none⟩,
         ⟨some 31, .un .not (.t 30), none⟩] none)
       (.cond (.t 31) (.seq (.reg [4] [] [
           ⟨some 4, .mv (.c (.v false (.bool false))), none⟩] none)
         (.ret))
        (.skip)))
      (.seq (.reg [4] [] [
         ⟨some 4, .mv (.c (.v false (.bool true))), none⟩] none)
       (.ret)))))))

def pf153 : PF := ⟨[.s 4], [], pb153⟩

-- loop.example/g00496/laws.eqPredS
def pl154_0 : PC :=
.seq (.seq (.reg [0, 1, 5, 14] [] [
          ⟨some 11, .mv (.t 5), none⟩,
          ⟨some 12, .mv (.t 0), none⟩,
          ⟨some 13, .len (.t 12), none⟩,
          ⟨some 14, .bin .lss (.t 11) (.t 13), none⟩] none)
        (.cond (.t 14) (.skip)
         (.exit 0)))
       (.seq (.blk 1 (.seq (.reg [0, 1, 5, 26] [] [
            ⟨some 17, .mv (.t 0), none⟩,
            ⟨some 18, .mv (.t 5), none⟩,
            ⟨some 19, .iad 7 (.t 17) (.t 18), none⟩,
            ⟨some 20, .ld true 7 (.t 19), none⟩,
            ⟨some 21, .mv (.t 1), none⟩,
            ⟨some 22, .mv (.t 5), none⟩,
            ⟨some 23, .iad 7 (.t 21) (.t 22), none⟩,
            ⟨some 24, .ld true 7 (.t 23), none⟩,
            ⟨some 25, .call 153 [] [(.t 20), (.t 24)], none⟩,
            ⟨some 26, .un .not (.t 25), none⟩] (some []))
          (.cond (.t 26) (.seq (.reg [4] [] [
              ⟨some 4, .mv (.c (.v false (.bool false))), none⟩] none)
            (.ret))
           (.skip))))
        (.reg [0, 1, 5] [] [
          ⟨some 15, .mv (.t 5), none⟩,
          ⟨some 16, .bin .add (.t 15) (.c (.v false (.int .i64 1))), none⟩,
          ⟨some 5, .mv (.t 16), none⟩] none))

def pb154 : PC :=
.seq (.reg [0, 1] [] [
   ⟨some 4, .mv (.c (.v false (.bool false))), none⟩] none)
 (.seq (.seq (.reg [0, 1, 10] [] [
     ⟨some 6, .mv (.t 0), none⟩,
     ⟨some 7, .len (.t 6), none⟩,
     ⟨some 8, .mv (.t 1), none⟩,
     ⟨some 9, .len (.t 8), none⟩,
     ⟨some 10, .bin .neq (.t 7) (.t 9), none⟩] none)
   (.cond (.t 10) (.seq (.reg [4] [] [
       ⟨some 4, .mv (.c (.v false (.bool false))), none⟩] none)
     (.ret))
    (.skip)))
  (.seq (.seq (.reg [0, 1, 5] [] [
      ⟨some 5, .mv (.c (.v false (.int .i64 0))), none⟩] none)
    (.blk 0 (.loop pl154_0)))
   (.seq (.reg [4] [] [
      ⟨some 4, .mv (.c (.v false (.bool true))), none⟩] none)
    (.ret))))

def pf154 : PF := ⟨[.s 4], [], pb154⟩

-- loop.example/g00496/laws.eqQuery
def pb155 : PC :=
.seq (.reg [2, 3] [] [
   ⟨some 2, .box 10 (.t 0), none⟩,
   ⟨some 3, .box 10 (.t 1), none⟩,
   ⟨some 4, .mv (.c (.v false (.bool false))), none⟩] none)
 (.seq (.seq (.reg [2, 3, 9] [] [
     ⟨some 5, .fad (.t 2) 0, none⟩,
     ⟨some 6, .ld false 1 (.t 5), none⟩,
     ⟨some 7, .fad (.t 3) 0, none⟩,
     ⟨some 8, .ld false 1 (.t 7), none⟩,
     ⟨some 9, .bin .neq (.t 6) (.t 8), none⟩] none)
   (.cond (.t 9) (.seq (.reg [4] [] [
       ⟨some 4, .mv (.c (.v false (.bool false))), none⟩] none)
     (.ret))
    (.skip)))
  (.seq (.seq (.reg [2, 3, 15] [] [
      ⟨some 10, .fad (.t 2) 1, none⟩,
      ⟨some 11, .ld true 7 (.t 10), none⟩,
      ⟨some 12, .fad (.t 3) 1, none⟩,
      ⟨some 13, .ld true 7 (.t 12), none⟩,
      ⟨some 14, .call 153 [] [(.t 11), (.t 13)], none⟩,
      ⟨some 15, .un .not (.t 14), none⟩] none)
    (.cond (.t 15) (.seq (.reg [4] [] [
        ⟨some 4, .mv (.c (.v false (.bool false))), none⟩] none)
      (.ret))
     (.skip)))
   (.seq (.seq (.reg [2, 3, 20] [] [
       ⟨some 16, .fad (.t 2) 8, none⟩,
       ⟨some 17, .ld false 1 (.t 16), none⟩,
       ⟨some 18, .fad (.t 3) 8, none⟩,
       ⟨some 19, .ld false 1 (.t 18), none⟩,
       ⟨some 20, .bin .neq (.t 17) (.t 19), none⟩] none)
     (.cond (.t 20) (.seq (.reg [4] [] [
         ⟨some 4, .mv (.c (.v false (.bool false))), none⟩] none)
       (.ret))
      (.skip)))
    (.seq (.seq (.reg [26] [] [
        ⟨some 21, .fad (.t 2) 9, none⟩,
        ⟨some 22, .ld false 1 (.t 21), none⟩,
        ⟨some 23, .fad (.t 3) 9, none⟩,
        ⟨some 24, .ld false 1 (.t 23), none⟩,
        ⟨some 25, .call 152 [] [(.t 22), (.t 24)], none⟩,
        ⟨some 26, .un .not (.t 25), none⟩] none)
      (.cond (.t 26) (.seq (.reg [4] [] [
          ⟨some 4, .mv (.c (.v false (.bool false))), none⟩] none)
        (.ret))
       (.skip)))
     (.seq (.reg [4] [] [
        ⟨some 4, .mv (.c (.v false (.bool true))), none⟩] none)
      (.ret))))))

def pf155 : PF := ⟨[.s 4], [], pb155⟩

-- loop.example/g00496/laws.eqResult
def pb158 : PC :=
.seq (.reg [2, 3] [] [
   ⟨some 2, .box 6 (.t 0), none⟩,
   ⟨some 3, .box 6 (.t 1), none⟩,
   ⟨some 4, .mv (.c (.v false (.bool false))), none⟩] none)
 (.seq (.seq (.reg [2, 3, 10] [] [
     ⟨some 5, .fad (.t 2) 0, none⟩,
     ⟨some 6, .ld false 1 (.t 5), none⟩,
     ⟨some 7, .fad (.t 3) 0, none⟩,
     ⟨some 8, .ld false 1 (.t 7), none⟩,
     ⟨some 9, .call 160 [] [(.t 6), (.t 8)], none⟩,
     ⟨some 10, .un .not (.t 9), none⟩] none)
   (.cond (.t 10) (.seq (.reg [4] [] [
       ⟨some 4, .mv (.c (.v false (.bool false))), none⟩] none)
     (.ret))
    (.skip)))
  (.seq (.seq (.reg [2, 3, 15] [] [
      ⟨some 11, .fad (.t 2) 1, none⟩,
      ⟨some 12, .ld false 1 (.t 11), none⟩,
      ⟨some 13, .fad (.t 3) 1, none⟩,
      ⟨some 14, .ld false 1 (.t 13), none⟩,
      ⟨some 15, .bin .neq (.t 12) (.t 14), none⟩] none)
    (.cond (.t 15) (.seq (.reg [4] [] [
        ⟨some 4, .mv (.c (.v false (.bool false))), none⟩] none)
      (.ret))
     (.skip)))
   (.seq (.seq (.reg [2, 3, 20] [] [
       ⟨some 16, .fad (.t 2) 2, none⟩,
       ⟨some 17, .ld false 1 (.t 16), none⟩,
       ⟨some 18, .fad (.t 3) 2, none⟩,
       ⟨some 19, .ld false 1 (.t 18), none⟩,
       ⟨some 20, .eqb true (.t 17) (.t 19), none⟩] none)
     (.cond (.t 20) (.seq (.reg [4] [] [
         ⟨some 4, .mv (.c (.v false (.bool false))), none⟩] none)
       (.ret))
      (.skip)))
    (.seq (.seq (.reg [26] [] [
        ⟨some 21, .fad (.t 2) 3, none⟩,
        ⟨some 22, .ld true 3 (.t 21), none⟩,
        ⟨some 23, .fad (.t 3) 3, none⟩,
        ⟨some 24, .ld true 3 (.t 23), none⟩,
        ⟨some 25, .call 165 [] [(.t 22), (.t 24)], none⟩,
        ⟨some 26, .un .not (.t 25), none⟩] none)
      (.cond (.t 26) (.seq (.reg [4] [] [
          ⟨some 4, .mv (.c (.v false (.bool false))), none⟩] none)
        (.ret))
       (.skip)))
     (.seq (.reg [4] [] [
        ⟨some 4, .mv (.c (.v false (.bool true))), none⟩] none)
      (.ret))))))

def pf158 : PF := ⟨[.s 4], [], pb158⟩

-- loop.example/g00496/laws.eqRow
def pb159 : PC :=
.seq (.reg [2, 3] [] [
   ⟨some 2, .box 2 (.t 0), none⟩,
   ⟨some 3, .box 2 (.t 1), none⟩,
   ⟨some 4, .mv (.c (.v false (.bool false))), none⟩] none)
 (.seq (.seq (.reg [2, 3, 9] [] [
     ⟨some 5, .fad (.t 2) 0, none⟩,
     ⟨some 6, .ld false 1 (.t 5), none⟩,
     ⟨some 7, .fad (.t 3) 0, none⟩,
     ⟨some 8, .ld false 1 (.t 7), none⟩,
     ⟨some 9, .bin .neq (.t 6) (.t 8), none⟩] none)
   (.cond (.t 9) (.seq (.reg [4] [] [
       ⟨some 4, .mv (.c (.v false (.bool false))), none⟩] none)
     (.ret))
    (.skip)))
  (.seq (.seq (.reg [15] [] [
      ⟨some 10, .fad (.t 2) 1, none⟩,
      ⟨some 11, .ld false 1 (.t 10), none⟩,
      ⟨some 12, .fad (.t 3) 1, none⟩,
      ⟨some 13, .ld false 1 (.t 12), none⟩,
      ⟨some 14, .call 166 [] [(.t 11), (.t 13)], none⟩,
      ⟨some 15, .un .not (.t 14), none⟩] none)
    (.cond (.t 15) (.seq (.reg [4] [] [
        ⟨some 4, .mv (.c (.v false (.bool false))), none⟩] none)
      (.ret))
     (.skip)))
   (.seq (.reg [4] [] [
      ⟨some 4, .mv (.c (.v false (.bool true))), none⟩] none)
    (.ret))))

def pf159 : PF := ⟨[.s 4], [], pb159⟩

-- loop.example/g00496/laws.eqRowS
def pl160_0 : PC :=
.seq (.seq (.reg [0, 1, 5, 14] [] [
          ⟨some 11, .mv (.t 5), none⟩,
          ⟨some 12, .mv (.t 0), none⟩,
          ⟨some 13, .len (.t 12), none⟩,
          ⟨some 14, .bin .lss (.t 11) (.t 13), none⟩] none)
        (.cond (.t 14) (.skip)
         (.exit 0)))
       (.seq (.blk 1 (.seq (.reg [0, 1, 5, 26] [] [
            ⟨some 17, .mv (.t 0), none⟩,
            ⟨some 18, .mv (.t 5), none⟩,
            ⟨some 19, .iad 2 (.t 17) (.t 18), none⟩,
            ⟨some 20, .ld true 2 (.t 19), none⟩,
            ⟨some 21, .mv (.t 1), none⟩,
            ⟨some 22, .mv (.t 5), none⟩,
            ⟨some 23, .iad 2 (.t 21) (.t 22), none⟩,
            ⟨some 24, .ld true 2 (.t 23), none⟩,
            ⟨some 25, .call 159 [] [(.t 20), (.t 24)], none⟩,
            ⟨some 26, .un .not (.t 25), none⟩] (some []))
          (.cond (.t 26) (.seq (.reg [4] [] [
              ⟨some 4, .mv (.c (.v false (.bool false))), none⟩] none)
            (.ret))
           (.skip))))
        (.reg [0, 1, 5] [] [
          ⟨some 15, .mv (.t 5), none⟩,
          ⟨some 16, .bin .add (.t 15) (.c (.v false (.int .i64 1))), none⟩,
          ⟨some 5, .mv (.t 16), none⟩] none))

def pb160 : PC :=
.seq (.reg [0, 1] [] [
   ⟨some 4, .mv (.c (.v false (.bool false))), none⟩] none)
 (.seq (.seq (.reg [0, 1, 10] [] [
     ⟨some 6, .mv (.t 0), none⟩,
     ⟨some 7, .len (.t 6), none⟩,
     ⟨some 8, .mv (.t 1), none⟩,
     ⟨some 9, .len (.t 8), none⟩,
     ⟨some 10, .bin .neq (.t 7) (.t 9), none⟩] none)
   (.cond (.t 10) (.seq (.reg [4] [] [
       ⟨some 4, .mv (.c (.v false (.bool false))), none⟩] none)
     (.ret))
    (.skip)))
  (.seq (.seq (.reg [0, 1, 5] [] [
      ⟨some 5, .mv (.c (.v false (.int .i64 0))), none⟩] none)
    (.blk 0 (.loop pl160_0)))
   (.seq (.reg [4] [] [
      ⟨some 4, .mv (.c (.v false (.bool true))), none⟩] none)
    (.ret))))

def pf160 : PF := ⟨[.s 4], [], pb160⟩

-- loop.example/g00496/laws.eqVal
def pb165 : PC :=
.seq (.reg [2, 3] [] [
   ⟨some 2, .box 3 (.t 0), none⟩,
   ⟨some 3, .box 3 (.t 1), none⟩,
   ⟨some 4, .mv (.c (.v false (.bool false))), none⟩] none)
 (.seq (.seq (.reg [2, 3, 9] [] [
     ⟨some 5, .fad (.t 2) 0, none⟩,
     ⟨some 6, .ld false 1 (.t 5), none⟩,
     ⟨some 7, .fad (.t 3) 0, none⟩,
     ⟨some 8, .ld false 1 (.t 7), none⟩,
     ⟨some 9, .bin .neq (.t 6) (.t 8), none⟩] none)
   (.cond (.t 9) (.seq (.reg [4] [] [
       ⟨some 4, .mv (.c (.v false (.bool false))), none⟩] none)
     (.ret))
    (.skip)))
  (.seq (.seq (.reg [2, 3, 14] [] [
      ⟨some 10, .fad (.t 2) 1, none⟩,
      ⟨some 11, .ld false 1 (.t 10), none⟩,
      ⟨some 12, .fad (.t 3) 1, none⟩,
      ⟨some 13, .ld false 1 (.t 12), none⟩,
      ⟨some 14, .bin .neq (.t 11) (.t 13), none⟩] none)
    (.cond (.t 14) (.seq (.reg [4] [] [
        ⟨some 4, .mv (.c (.v false (.bool false))), none⟩] none)
      (.ret))
     (.skip)))
   (.seq (.seq (.reg [19] [] [
       ⟨some 15, .fad (.t 2) 2, none⟩,
       ⟨some 16, .ld false 1 (.t 15), none⟩,
       ⟨some 17, .fad (.t 3) 2, none⟩,
       ⟨some 18, .ld false 1 (.t 17), none⟩,
       ⟨some 19, .bin .neq (.t 16) (.t 18), none⟩] none)
     (.cond (.t 19) (.seq (.reg [4] [] [
         ⟨some 4, .mv (.c (.v false (.bool false))), none⟩] none)
       (.ret))
      (.skip)))
    (.seq (.reg [4] [] [
       ⟨some 4, .mv (.c (.v false (.bool true))), none⟩] none)
     (.ret)))))

def pf165 : PF := ⟨[.s 4], [], pb165⟩

-- loop.example/g00496/laws.eqValS
def pl166_0 : PC :=
.seq (.seq (.reg [0, 1, 5, 14] [] [
          ⟨some 11, .mv (.t 5), none⟩,
          ⟨some 12, .mv (.t 0), none⟩,
          ⟨some 13, .len (.t 12), none⟩,
          ⟨some 14, .bin .lss (.t 11) (.t 13), none⟩] none)
        (.cond (.t 14) (.skip)
         (.exit 0)))
       (.seq (.blk 1 (.seq (.reg [0, 1, 5, 26] [] [
            ⟨some 17, .mv (.t 0), none⟩,
            ⟨some 18, .mv (.t 5), none⟩,
            ⟨some 19, .iad 3 (.t 17) (.t 18), none⟩,
            ⟨some 20, .ld true 3 (.t 19), none⟩,
            ⟨some 21, .mv (.t 1), none⟩,
            ⟨some 22, .mv (.t 5), none⟩,
            ⟨some 23, .iad 3 (.t 21) (.t 22), none⟩,
            ⟨some 24, .ld true 3 (.t 23), none⟩,
            ⟨some 25, .call 165 [] [(.t 20), (.t 24)], none⟩,
            ⟨some 26, .un .not (.t 25), none⟩] (some []))
          (.cond (.t 26) (.seq (.reg [4] [] [
              ⟨some 4, .mv (.c (.v false (.bool false))), none⟩] none)
            (.ret))
           (.skip))))
        (.reg [0, 1, 5] [] [
          ⟨some 15, .mv (.t 5), none⟩,
          ⟨some 16, .bin .add (.t 15) (.c (.v false (.int .i64 1))), none⟩,
          ⟨some 5, .mv (.t 16), none⟩] none))

def pb166 : PC :=
.seq (.reg [0, 1] [] [
   ⟨some 4, .mv (.c (.v false (.bool false))), none⟩] none)
 (.seq (.seq (.reg [0, 1, 10] [] [
     ⟨some 6, .mv (.t 0), none⟩,
     ⟨some 7, .len (.t 6), none⟩,
     ⟨some 8, .mv (.t 1), none⟩,
     ⟨some 9, .len (.t 8), none⟩,
     ⟨some 10, .bin .neq (.t 7) (.t 9), none⟩] none)
   (.cond (.t 10) (.seq (.reg [4] [] [
       ⟨some 4, .mv (.c (.v false (.bool false))), none⟩] none)
     (.ret))
    (.skip)))
  (.seq (.seq (.reg [0, 1, 5] [] [
      ⟨some 5, .mv (.c (.v false (.int .i64 0))), none⟩] none)
    (.blk 0 (.loop pl166_0)))
   (.seq (.reg [4] [] [
      ⟨some 4, .mv (.c (.v false (.bool true))), none⟩] none)
    (.ret))))

def pf166 : PF := ⟨[.s 4], [], pb166⟩

-- loop.example/g00496/laws.heldIntS
def pl175_0 : PC :=
.seq (.seq (.reg [0, 1, 5, 9] [] [
         ⟨some 6, .mv (.t 5), none⟩,
         ⟨some 7, .mv (.t 0), none⟩,
         ⟨some 8, .len (.t 7), none⟩,
         ⟨some 9, .bin .lss (.t 6) (.t 8), none⟩] none)
       (.cond (.t 9) (.skip)
        (.exit 0)))
      (.seq (.blk 1 (.seq (.seq (.reg [0, 1, 5, 17] [] [
            ⟨some 12, .mv (.t 0), none⟩,
            ⟨some 13, .mv (.t 5), none⟩,
            ⟨some 14, .iad 1 (.t 12) (.t 13), none⟩,
            ⟨some 15, .ld false 1 (.t 14), none⟩,
            ⟨some 16, .mv (.t 1), none⟩,
            ⟨some 17, .bin .neq (.t 15) (.t 16), none⟩] none)
          (.cond (.t 17) (.seq (.reg [4] [] [
              ⟨some 4, .mv (.c (.v false (.int .i64 (-1)))), none⟩] none)
            (.ret))
           (.skip)))
         (.reg [0, 1, 5] [] [
           ⟨some 18, .mv (.t 1), none⟩,
           ⟨some 19, .bin .add (.t 18) (.c (.v false (.int .i64 1))), none⟩,
           ⟨some 1, .mv (.t 19), none⟩] none)))
       (.reg [0, 1, 5] [] [
         ⟨some 10, .mv (.t 5), none⟩,
         ⟨some 11, .bin .add (.t 10) (.c (.v false (.int .i64 1))), none⟩,
         ⟨some 5, .mv (.t 11), none⟩] none))

def pb175 : PC :=
.seq (.reg [0, 1] [] [
   ⟨some 4, .mv (.c (.v false (.int .i64 0))), none⟩] none)
 (.seq (.seq (.reg [0, 1, 5] [] [
     ⟨some 5, .mv (.c (.v false (.int .i64 0))), none⟩] none)
   (.blk 0 (.loop pl175_0)))
  (.seq (.reg [4] [] [
     ⟨some 20, .mv (.t 1), none⟩,
     ⟨some 4, .mv (.t 20), none⟩] none)
   (.ret)))

def pf175 : PF := ⟨[.s 4], [], pb175⟩

-- loop.example/g00496/laws.markDeedS
def pl188_0 : PC :=
.seq (.seq (.reg [0, 1, 5, 9] [] [
         ⟨some 6, .mv (.t 5), none⟩,
         ⟨some 7, .mv (.t 0), none⟩,
         ⟨some 8, .len (.t 7), none⟩,
         ⟨some 9, .bin .lss (.t 6) (.t 8), none⟩] none)
       (.cond (.t 9) (.skip)
        (.exit 0)))
      (.seq (.blk 1 (.seq (.reg [0, 1, 5] [] [
           ⟨some 12, .mv (.t 0), none⟩,
           ⟨some 13, .mv (.t 5), none⟩,
           ⟨some 14, .mv (.t 1), none⟩,
           ⟨some 15, .iad 25 (.t 12) (.t 13), none⟩,
           ⟨some 16, .fad (.t 15) 0, none⟩,
           ⟨none, .st 1 (.t 16) (.t 14), none⟩] none)
         (.seq (.reg [0, 1, 5] [] [
            ⟨some 17, .mv (.t 1), none⟩,
            ⟨some 18, .bin .add (.t 17) (.c (.v false (.int .i64 1))), none⟩,
            ⟨some 1, .mv (.t 18), none⟩] none)
          (.seq (.reg [0, 1, 5] [] [
             ⟨some 19, .mv (.t 0), none⟩,
             ⟨some 20, .mv (.t 5), none⟩,
             ⟨some 21, .mv (.t 1), none⟩,
             ⟨some 22, .iad 25 (.t 19) (.t 20), none⟩,
             ⟨some 23, .fad (.t 22) 1, none⟩,
             ⟨none, .st 1 (.t 23) (.t 21), none⟩] none)
           (.seq (.reg [0, 1, 5] [] [
              ⟨some 24, .mv (.t 1), none⟩,
              ⟨some 25, .bin .add (.t 24) (.c (.v false (.int .i64 1))), none⟩,
              ⟨some 1, .mv (.t 25), none⟩] none)
            (.seq (.reg [0, 1, 5] [(32, 1)] [
               ⟨some 26, .mv (.t 0), none⟩,
               ⟨some 27, .mv (.t 5), none⟩,
               ⟨some 28, .iad 25 (.t 26) (.t 27), none⟩,
               ⟨some 29, .fad (.t 28) 2, none⟩,
               ⟨some 30, .ld false 1 (.t 29), none⟩,
               ⟨some 31, .mv (.t 1), none⟩,
               ⟨some 32, .call 197 [0] [(.t 30), (.t 31)], none⟩,
               ⟨some 1, .mv (.t 32), none⟩] none)
             (.seq (.reg [0, 1, 5] [] [
                ⟨some 33, .mv (.t 0), none⟩,
                ⟨some 34, .mv (.t 5), none⟩,
                ⟨some 35, .mv (.t 1), none⟩,
                ⟨some 36, .iad 25 (.t 33) (.t 34), none⟩,
                ⟨some 37, .fad (.t 36) 3, none⟩,
                ⟨none, .st 1 (.t 37) (.t 35), none⟩] none)
              (.seq (.reg [0, 1, 5] [] [
                 ⟨some 38, .mv (.t 1), none⟩,
                 ⟨some 39, .bin .add (.t 38) (.c (.v false (.int .i64 1))), none⟩,
                 ⟨some 1, .mv (.t 39), none⟩] none)
               (.seq (.reg [0, 1, 5] [] [
                  ⟨some 40, .mv (.t 0), none⟩,
                  ⟨some 41, .mv (.t 5), none⟩,
                  ⟨some 42, .mv (.t 1), none⟩,
                  ⟨some 43, .iad 25 (.t 40) (.t 41), none⟩,
                  ⟨some 44, .fad (.t 43) 4, none⟩,
                  ⟨some 45, .fad (.t 44) 0, none⟩,
                  ⟨none, .st 1 (.t 45) (.t 42), none⟩] none)
                (.seq (.reg [0, 1, 5] [] [
                   ⟨some 46, .mv (.t 1), none⟩,
                   ⟨some 47, .bin .add (.t 46) (.c (.v false (.int .i64 1))), none⟩,
                   ⟨some 1, .mv (.t 47), none⟩] none)
                 (.seq (.reg [0, 1, 5] [] [
                    ⟨some 48, .mv (.t 0), none⟩,
                    ⟨some 49, .mv (.t 5), none⟩,
                    ⟨some 50, .mv (.t 1), none⟩,
                    ⟨some 51, .iad 25 (.t 48) (.t 49), none⟩,
                    ⟨some 52, .fad (.t 51) 4, none⟩,
                    ⟨some 53, .fad (.t 52) 1, none⟩,
                    ⟨some 54, .fad (.t 53) 0, none⟩,
                    ⟨none, .st 1 (.t 54) (.t 50), none⟩] none)
                  (.seq (.reg [0, 1, 5] [] [
                     ⟨some 55, .mv (.t 1), none⟩,
                     ⟨some 56, .bin .add (.t 55) (.c (.v false (.int .i64 1))), none⟩,
                     ⟨some 1, .mv (.t 56), none⟩] none)
                   (.seq (.reg [0, 1, 5] [] [
                      ⟨some 57, .mv (.t 0), none⟩,
                      ⟨some 58, .mv (.t 5), none⟩,
                      ⟨some 59, .mv (.t 1), none⟩,
                      ⟨some 60, .iad 25 (.t 57) (.t 58), none⟩,
                      ⟨some 61, .fad (.t 60) 4, none⟩,
                      ⟨some 62, .fad (.t 61) 1, none⟩,
                      ⟨some 63, .fad (.t 62) 1, none⟩,
                      ⟨none, .st 1 (.t 63) (.t 59), none⟩] none)
                    (.seq (.reg [0, 1, 5] [] [
                       ⟨some 64, .mv (.t 1), none⟩,
                       ⟨some 65, .bin .add (.t 64) (.c (.v false (.int .i64 1))), none⟩,
                       ⟨some 1, .mv (.t 65), none⟩] none)
                     (.seq (.reg [0, 1, 5] [] [
                        ⟨some 66, .mv (.t 0), none⟩,
                        ⟨some 67, .mv (.t 5), none⟩,
                        ⟨some 68, .mv (.t 1), none⟩,
                        ⟨some 69, .iad 25 (.t 66) (.t 67), none⟩,
                        ⟨some 70, .fad (.t 69) 4, none⟩,
                        ⟨some 71, .fad (.t 70) 1, none⟩,
                        ⟨some 72, .fad (.t 71) 2, none⟩,
                        ⟨none, .st 1 (.t 72) (.t 68), none⟩] none)
                      (.seq (.reg [0, 1, 5] [] [
                         ⟨some 73, .mv (.t 1), none⟩,
                         ⟨some 74, .bin .add (.t 73) (.c (.v false (.int .i64 1))), none⟩,
                         ⟨some 1, .mv (.t 74), none⟩] none)
                       (.seq (.reg [0, 1, 5] [] [
                          ⟨some 75, .mv (.t 0), none⟩,
                          ⟨some 76, .mv (.t 5), none⟩,
                          ⟨some 77, .mv (.t 1), none⟩,
                          ⟨some 78, .iad 25 (.t 75) (.t 76), none⟩,
                          ⟨some 79, .fad (.t 78) 4, none⟩,
                          ⟨some 80, .fad (.t 79) 1, none⟩,
                          ⟨some 81, .fad (.t 80) 3, none⟩,
                          ⟨some 82, .fad (.t 81) 0, none⟩,
                          ⟨none, .st 1 (.t 82) (.t 77), none⟩] none)
                        (.seq (.reg [0, 1, 5] [] [
                           ⟨some 83, .mv (.t 1), none⟩,
                           ⟨some 84, .bin .add (.t 83) (.c (.v false (.int .i64 1))), none⟩,
                           ⟨some 1, .mv (.t 84), none⟩] none)
                         (.seq (.reg [0, 1, 5] [] [
                            ⟨some 85, .mv (.t 0), none⟩,
                            ⟨some 86, .mv (.t 5), none⟩,
                            ⟨some 87, .mv (.t 1), none⟩,
                            ⟨some 88, .iad 25 (.t 85) (.t 86), none⟩,
                            ⟨some 89, .fad (.t 88) 4, none⟩,
                            ⟨some 90, .fad (.t 89) 1, none⟩,
                            ⟨some 91, .fad (.t 90) 3, none⟩,
                            ⟨some 92, .fad (.t 91) 1, none⟩,
                            ⟨none, .st 1 (.t 92) (.t 87), none⟩] none)
                          (.seq (.reg [0, 1, 5] [] [
                             ⟨some 93, .mv (.t 1), none⟩,
                             ⟨some 94, .bin .add (.t 93) (.c (.v false (.int .i64 1))), none⟩,
                             ⟨some 1, .mv (.t 94), none⟩] none)
                           (.seq (.reg [0, 1, 5] [] [
                              ⟨some 95, .mv (.t 0), none⟩,
                              ⟨some 96, .mv (.t 5), none⟩,
                              ⟨some 97, .mv (.t 1), none⟩,
                              ⟨some 98, .call 196 [] [(.t 97)], none⟩,
                              ⟨some 99, .iad 25 (.t 95) (.t 96), none⟩,
                              ⟨some 100, .fad (.t 99) 4, none⟩,
                              ⟨some 101, .fad (.t 100) 1, none⟩,
                              ⟨some 102, .fad (.t 101) 3, none⟩,
                              ⟨some 103, .fad (.t 102) 2, none⟩,
                              ⟨none, .st 1 (.t 103) (.t 98), none⟩] none)
                            (.seq (.reg [0, 1, 5] [] [
                               ⟨some 104, .mv (.t 1), none⟩,
                               ⟨some 105, .bin .add (.t 104) (.c (.v false (.int .i64 1))), none⟩,
                               ⟨some 1, .mv (.t 105), none⟩] none)
                             (.seq (.reg [0, 1, 5] [(114, 1)] [
                                ⟨some 106, .mv (.t 0), none⟩,
                                ⟨some 107, .mv (.t 5), none⟩,
                                ⟨some 108, .iad 25 (.t 106) (.t 107), none⟩,
                                ⟨some 109, .fad (.t 108) 4, none⟩,
                                ⟨some 110, .fad (.t 109) 1, none⟩,
                                ⟨some 111, .fad (.t 110) 6, none⟩,
                                ⟨some 112, .ld false 1 (.t 111), none⟩,
                                ⟨some 113, .mv (.t 1), none⟩,
                                ⟨some 114, .call 191 [0] [(.t 112), (.t 113)], none⟩,
                                ⟨some 1, .mv (.t 114), none⟩] none)
                              (.seq (.reg [0, 1, 5] [] [
                                 ⟨some 115, .mv (.t 0), none⟩,
                                 ⟨some 116, .mv (.t 5), none⟩,
                                 ⟨some 117, .mv (.t 1), none⟩,
                                 ⟨some 118, .iad 25 (.t 115) (.t 116), none⟩,
                                 ⟨some 119, .fad (.t 118) 4, none⟩,
                                 ⟨some 120, .fad (.t 119) 8, none⟩,
                                 ⟨none, .st 1 (.t 120) (.t 117), none⟩] none)
                               (.seq (.reg [0, 1, 5] [] [
                                  ⟨some 121, .mv (.t 1), none⟩,
                                  ⟨some 122, .bin .add (.t 121) (.c (.v false (.int .i64 1))), none⟩,
                                  ⟨some 1, .mv (.t 122), none⟩] none)
                                (.seq (.reg [0, 1, 5] [(130, 1)] [
                                   ⟨some 123, .mv (.t 0), none⟩,
                                   ⟨some 124, .mv (.t 5), none⟩,
                                   ⟨some 125, .iad 25 (.t 123) (.t 124), none⟩,
                                   ⟨some 126, .fad (.t 125) 4, none⟩,
                                   ⟨some 127, .fad (.t 126) 9, none⟩,
                                   ⟨some 128, .ld false 1 (.t 127), none⟩,
                                   ⟨some 129, .mv (.t 1), none⟩,
                                   ⟨some 130, .call 190 [0] [(.t 128), (.t 129)], none⟩,
                                   ⟨some 1, .mv (.t 130), none⟩] none)
                                 (.seq (.reg [0, 1, 5] [(138, 1)] [
                                    ⟨some 131, .mv (.t 0), none⟩,
                                    ⟨some 132, .mv (.t 5), none⟩,
                                    ⟨some 133, .iad 25 (.t 131) (.t 132), none⟩,
                                    ⟨some 134, .fad (.t 133) 14, none⟩,
                                    ⟨some 135, .fad (.t 134) 0, none⟩,
                                    ⟨some 136, .ld false 1 (.t 135), none⟩,
                                    ⟨some 137, .mv (.t 1), none⟩,
                                    ⟨some 138, .call 193 [0] [(.t 136), (.t 137)], none⟩,
                                    ⟨some 1, .mv (.t 138), none⟩] none)
                                  (.seq (.reg [0, 1, 5] [] [
                                     ⟨some 139, .mv (.t 0), none⟩,
                                     ⟨some 140, .mv (.t 5), none⟩,
                                     ⟨some 141, .mv (.t 1), none⟩,
                                     ⟨some 142, .iad 25 (.t 139) (.t 140), none⟩,
                                     ⟨some 143, .fad (.t 142) 14, none⟩,
                                     ⟨some 144, .fad (.t 143) 1, none⟩,
                                     ⟨none, .st 1 (.t 144) (.t 141), none⟩] none)
                                   (.seq (.reg [0, 1, 5] [] [
                                      ⟨some 145, .mv (.t 1), none⟩,
                                      ⟨some 146, .bin .add (.t 145) (.c (.v false (.int .i64 1))), none⟩,
                                      ⟨some 1, .mv (.t 146), none⟩] none)
                                    (.seq (.reg [0, 1, 5] [] [
                                       ⟨some 147, .mv (.t 0), none⟩,
                                       ⟨some 148, .mv (.t 5), none⟩,
                                       ⟨some 149, .mv (.t 1), none⟩,
                                       ⟨some 150, .bin .rem (.t 149) (.c (.v false (.int .i64 3))), none⟩,
                                       ⟨some 151, .bin .eql (.t 150) (.c (.v false (.int .i64 0))), none⟩,
                                       ⟨some 152, .iad 25 (.t 147) (.t 148), none⟩,
                                       ⟨some 153, .fad (.t 152) 14, none⟩,
                                       ⟨some 154, .fad (.t 153) 2, none⟩,
                                       ⟨none, .st 1 (.t 154) (.t 151), none⟩] none)
                                     (.seq (.reg [0, 1, 5] [] [
                                        ⟨some 155, .mv (.t 1), none⟩,
                                        ⟨some 156, .bin .add (.t 155) (.c (.v false (.int .i64 1))), none⟩,
                                        ⟨some 1, .mv (.t 156), none⟩] none)
                                      (.seq (.reg [0, 1, 5] [] [
                                         ⟨some 157, .mv (.t 0), none⟩,
                                         ⟨some 158, .mv (.t 5), none⟩,
                                         ⟨some 159, .mv (.t 1), none⟩,
                                         ⟨some 160, .iad 25 (.t 157) (.t 158), none⟩,
                                         ⟨some 161, .fad (.t 160) 14, none⟩,
                                         ⟨some 162, .fad (.t 161) 3, none⟩,
                                         ⟨some 163, .fad (.t 162) 0, none⟩,
                                         ⟨none, .st 1 (.t 163) (.t 159), none⟩] none)
                                       (.seq (.reg [0, 1, 5] [] [
                                          ⟨some 164, .mv (.t 1), none⟩,
                                          ⟨some 165, .bin .add (.t 164) (.c (.v false (.int .i64 1))), none⟩,
                                          ⟨some 1, .mv (.t 165), none⟩] none)
                                        (.seq (.reg [0, 1, 5] [] [
                                           ⟨some 166, .mv (.t 0), none⟩,
                                           ⟨some 167, .mv (.t 5), none⟩,
                                           ⟨some 168, .mv (.t 1), none⟩,
                                           ⟨some 169, .iad 25 (.t 166) (.t 167), none⟩,
                                           ⟨some 170, .fad (.t 169) 14, none⟩,
                                           ⟨some 171, .fad (.t 170) 3, none⟩,
                                           ⟨some 172, .fad (.t 171) 1, none⟩,
                                           ⟨none, .st 1 (.t 172) (.t 168), none⟩] none)
                                         (.seq (.reg [0, 1, 5] [] [
                                            ⟨some 173, .mv (.t 1), none⟩,
                                            ⟨some 174, .bin .add (.t 173) (.c (.v false (.int .i64 1))), none⟩,
                                            ⟨some 1, .mv (.t 174), none⟩] none)
                                          (.seq (.reg [0, 1, 5] [] [
                                             ⟨some 175, .mv (.t 0), none⟩,
                                             ⟨some 176, .mv (.t 5), none⟩,
                                             ⟨some 177, .mv (.t 1), none⟩,
                                             ⟨some 178, .call 196 [] [(.t 177)], none⟩,
                                             ⟨some 179, .iad 25 (.t 175) (.t 176), none⟩,
                                             ⟨some 180, .fad (.t 179) 14, none⟩,
                                             ⟨some 181, .fad (.t 180) 3, none⟩,
                                             ⟨some 182, .fad (.t 181) 2, none⟩,
                                             ⟨none, .st 1 (.t 182) (.t 178), none⟩] none)
                                           (.seq (.reg [0, 1, 5] [] [
                                              ⟨some 183, .mv (.t 1), none⟩,
                                              ⟨some 184, .bin .add (.t 183) (.c (.v false (.int .i64 1))), none⟩,
                                              ⟨some 1, .mv (.t 184), none⟩] none)
                                            (.seq (.reg [0, 1, 5] [] [
                                               ⟨some 185, .mv (.t 0), none⟩,
                                               ⟨some 186, .mv (.t 5), none⟩,
                                               ⟨some 187, .mv (.t 1), none⟩,
                                               ⟨some 188, .iad 25 (.t 185) (.t 186), none⟩,
                                               ⟨some 189, .fad (.t 188) 20, none⟩,
                                               ⟨none, .st 1 (.t 189) (.t 187), none⟩] none)
                                             (.seq (.reg [0, 1, 5] [] [
                                                ⟨some 190, .mv (.t 1), none⟩,
                                                ⟨some 191, .bin .add (.t 190) (.c (.v false (.int .i64 1))), none⟩,
                                                ⟨some 1, .mv (.t 191), none⟩] none)
                                              (.seq (.reg [0, 1, 5] [] [
                                                 ⟨some 192, .mv (.t 0), none⟩,
                                                 ⟨some 193, .mv (.t 5), none⟩,
                                                 ⟨some 194, .mv (.t 1), none⟩,
                                                 ⟨some 195, .iad 25 (.t 192) (.t 193), none⟩,
                                                 ⟨some 196, .fad (.t 195) 21, none⟩,
                                                 ⟨none, .st 1 (.t 196) (.t 194), none⟩] none)
                                               (.seq (.reg [0, 1, 5] [] [
                                                  ⟨some 197, .mv (.t 1), none⟩,
                                                  ⟨some 198, .bin .add (.t 197) (.c (.v false (.int .i64 1))), none⟩,
                                                  ⟨some 1, .mv (.t 198), none⟩] none)
                                                (.seq (.reg [0, 1, 5] [] [
                                                   ⟨some 199, .mv (.t 0), none⟩,
                                                   ⟨some 200, .mv (.t 5), none⟩,
                                                   ⟨some 201, .mv (.t 1), none⟩,
                                                   ⟨some 202, .iad 25 (.t 199) (.t 200), none⟩,
                                                   ⟨some 203, .fad (.t 202) 22, none⟩,
                                                   ⟨none, .st 1 (.t 203) (.t 201), none⟩] none)
                                                 (.seq (.reg [0, 1, 5] [] [
                                                    ⟨some 204, .mv (.t 1), none⟩,
                                                    ⟨some 205, .bin .add (.t 204) (.c (.v false (.int .i64 1))), none⟩,
                                                    ⟨some 1, .mv (.t 205), none⟩] none)
                                                  (.seq (.reg [0, 1, 5] [] [
                                                     ⟨some 206, .mv (.t 0), none⟩,
                                                     ⟨some 207, .mv (.t 5), none⟩,
                                                     ⟨some 208, .mv (.t 1), none⟩,
                                                     ⟨some 209, .iad 25 (.t 206) (.t 207), none⟩,
                                                     ⟨some 210, .fad (.t 209) 23, none⟩,
                                                     ⟨none, .st 1 (.t 210) (.t 208), none⟩] none)
                                                   (.seq (.reg [0, 1, 5] [] [
                                                      ⟨some 211, .mv (.t 1), none⟩,
                                                      ⟨some 212, .bin .add (.t 211) (.c (.v false (.int .i64 1))), none⟩,
                                                      ⟨some 1, .mv (.t 212), none⟩] none)
                                                    (.seq (.reg [0, 1, 5] [] [
                                                       ⟨some 213, .mv (.t 0), none⟩,
                                                       ⟨some 214, .mv (.t 5), none⟩,
                                                       ⟨some 215, .mv (.t 1), none⟩,
                                                       ⟨some 216, .iad 25 (.t 213) (.t 214), none⟩,
                                                       ⟨some 217, .fad (.t 216) 24, none⟩,
                                                       ⟨none, .st 1 (.t 217) (.t 215), none⟩] none)
                                                     (.reg [0, 1, 5] [] [
                                                       ⟨some 218, .mv (.t 1), none⟩,
                                                       ⟨some 219, .bin .add (.t 218) (.c (.v false (.int .i64 1))), none⟩,
                                                       ⟨some 1, .mv (.t 219), none⟩] none)))))))))))))))))))))))))))))))))))))))))))))))
       (.reg [0, 1, 5] [] [
         ⟨some 10, .mv (.t 5), none⟩,
         ⟨some 11, .bin .add (.t 10) (.c (.v false (.int .i64 1))), none⟩,
         ⟨some 5, .mv (.t 11), none⟩] none))

def pb188 : PC :=
.seq (.reg [0, 1] [] [
   ⟨some 4, .mv (.c (.v false (.int .i64 0))), none⟩] none)
 (.seq (.seq (.reg [0, 1, 5] [] [
     ⟨some 5, .mv (.c (.v false (.int .i64 0))), none⟩] none)
   (.blk 0 (.loop pl188_0)))
  (.seq (.reg [0, 4] [] [
     ⟨some 220, .mv (.t 1), none⟩,
     ⟨some 4, .mv (.t 220), none⟩] none)
   (.ret)))

def pf188 : PF := ⟨[.s 4], [0], pb188⟩

-- loop.example/g00496/laws.markIntS
def pl190_0 : PC :=
.seq (.seq (.reg [0, 1, 5, 9] [] [
         ⟨some 6, .mv (.t 5), none⟩,
         ⟨some 7, .mv (.t 0), none⟩,
         ⟨some 8, .len (.t 7), none⟩,
         ⟨some 9, .bin .lss (.t 6) (.t 8), none⟩] none)
       (.cond (.t 9) (.skip)
        (.exit 0)))
      (.seq (.blk 1 (.seq (.reg [0, 1, 5] [] [
           ⟨some 12, .mv (.t 0), none⟩,
           ⟨some 13, .mv (.t 5), none⟩,
           ⟨some 14, .mv (.t 1), none⟩,
           ⟨some 15, .iad 1 (.t 12) (.t 13), none⟩,
           ⟨none, .st 1 (.t 15) (.t 14), none⟩] none)
         (.reg [0, 1, 5] [] [
           ⟨some 16, .mv (.t 1), none⟩,
           ⟨some 17, .bin .add (.t 16) (.c (.v false (.int .i64 1))), none⟩,
           ⟨some 1, .mv (.t 17), none⟩] none)))
       (.reg [0, 1, 5] [] [
         ⟨some 10, .mv (.t 5), none⟩,
         ⟨some 11, .bin .add (.t 10) (.c (.v false (.int .i64 1))), none⟩,
         ⟨some 5, .mv (.t 11), none⟩] none))

def pb190 : PC :=
.seq (.reg [0, 1] [] [
   ⟨some 4, .mv (.c (.v false (.int .i64 0))), none⟩] none)
 (.seq (.seq (.reg [0, 1, 5] [] [
     ⟨some 5, .mv (.c (.v false (.int .i64 0))), none⟩] none)
   (.blk 0 (.loop pl190_0)))
  (.seq (.reg [0, 4] [] [
     ⟨some 18, .mv (.t 1), none⟩,
     ⟨some 4, .mv (.t 18), none⟩] none)
   (.ret)))

def pf190 : PF := ⟨[.s 4], [0], pb190⟩

-- loop.example/g00496/laws.markPredS
def pl191_0 : PC :=
.seq (.seq (.reg [0, 1, 5, 9] [] [
         ⟨some 6, .mv (.t 5), none⟩,
         ⟨some 7, .mv (.t 0), none⟩,
         ⟨some 8, .len (.t 7), none⟩,
         ⟨some 9, .bin .lss (.t 6) (.t 8), none⟩] none)
       (.cond (.t 9) (.skip)
        (.exit 0)))
      (.seq (.blk 1 (.seq (.reg [0, 1, 5] [] [
           ⟨some 12, .mv (.t 0), none⟩,
           ⟨some 13, .mv (.t 5), none⟩,
           ⟨some 14, .mv (.t 1), none⟩,
           ⟨some 15, .iad 7 (.t 12) (.t 13), none⟩,
           ⟨some 16, .fad (.t 15) 0, none⟩,
           ⟨none, .st 1 (.t 16) (.t 14), none⟩] none)
         (.seq (.reg [0, 1, 5] [] [
            ⟨some 17, .mv (.t 1), none⟩,
            ⟨some 18, .bin .add (.t 17) (.c (.v false (.int .i64 1))), none⟩,
            ⟨some 1, .mv (.t 18), none⟩] none)
          (.seq (.reg [0, 1, 5] [] [
             ⟨some 19, .mv (.t 0), none⟩,
             ⟨some 20, .mv (.t 5), none⟩,
             ⟨some 21, .mv (.t 1), none⟩,
             ⟨some 22, .iad 7 (.t 19) (.t 20), none⟩,
             ⟨some 23, .fad (.t 22) 1, none⟩,
             ⟨none, .st 1 (.t 23) (.t 21), none⟩] none)
           (.seq (.reg [0, 1, 5] [] [
              ⟨some 24, .mv (.t 1), none⟩,
              ⟨some 25, .bin .add (.t 24) (.c (.v false (.int .i64 1))), none⟩,
              ⟨some 1, .mv (.t 25), none⟩] none)
            (.seq (.reg [0, 1, 5] [] [
               ⟨some 26, .mv (.t 0), none⟩,
               ⟨some 27, .mv (.t 5), none⟩,
               ⟨some 28, .mv (.t 1), none⟩,
               ⟨some 29, .iad 7 (.t 26) (.t 27), none⟩,
               ⟨some 30, .fad (.t 29) 2, none⟩,
               ⟨none, .st 1 (.t 30) (.t 28), none⟩] none)
             (.seq (.reg [0, 1, 5] [] [
                ⟨some 31, .mv (.t 1), none⟩,
                ⟨some 32, .bin .add (.t 31) (.c (.v false (.int .i64 1))), none⟩,
                ⟨some 1, .mv (.t 32), none⟩] none)
              (.seq (.reg [0, 1, 5] [] [
                 ⟨some 33, .mv (.t 0), none⟩,
                 ⟨some 34, .mv (.t 5), none⟩,
                 ⟨some 35, .mv (.t 1), none⟩,
                 ⟨some 36, .iad 7 (.t 33) (.t 34), none⟩,
                 ⟨some 37, .fad (.t 36) 3, none⟩,
                 ⟨some 38, .fad (.t 37) 0, none⟩,
                 ⟨none, .st 1 (.t 38) (.t 35), none⟩] none)
               (.seq (.reg [0, 1, 5] [] [
                  ⟨some 39, .mv (.t 1), none⟩,
                  ⟨some 40, .bin .add (.t 39) (.c (.v false (.int .i64 1))), none⟩,
                  ⟨some 1, .mv (.t 40), none⟩] none)
                (.seq (.reg [0, 1, 5] [] [
                   ⟨some 41, .mv (.t 0), none⟩,
                   ⟨some 42, .mv (.t 5), none⟩,
                   ⟨some 43, .mv (.t 1), none⟩,
                   ⟨some 44, .iad 7 (.t 41) (.t 42), none⟩,
                   ⟨some 45, .fad (.t 44) 3, none⟩,
                   ⟨some 46, .fad (.t 45) 1, none⟩,
                   ⟨none, .st 1 (.t 46) (.t 43), none⟩] none)
                 (.seq (.reg [0, 1, 5] [] [
                    ⟨some 47, .mv (.t 1), none⟩,
                    ⟨some 48, .bin .add (.t 47) (.c (.v false (.int .i64 1))), none⟩,
                    ⟨some 1, .mv (.t 48), none⟩] none)
                  (.seq (.reg [0, 1, 5] [] [
                     ⟨some 49, .mv (.t 0), none⟩,
                     ⟨some 50, .mv (.t 5), none⟩,
                     ⟨some 51, .mv (.t 1), none⟩,
                     ⟨some 52, .call 196 [] [(.t 51)], none⟩,
                     ⟨some 53, .iad 7 (.t 49) (.t 50), none⟩,
                     ⟨some 54, .fad (.t 53) 3, none⟩,
                     ⟨some 55, .fad (.t 54) 2, none⟩,
                     ⟨none, .st 1 (.t 55) (.t 52), none⟩] none)
                   (.seq (.reg [0, 1, 5] [] [
                      ⟨some 56, .mv (.t 1), none⟩,
                      ⟨some 57, .bin .add (.t 56) (.c (.v false (.int .i64 1))), none⟩,
                      ⟨some 1, .mv (.t 57), none⟩] none)
                    (.reg [0, 1, 5] [(64, 1)] [
                      ⟨some 58, .mv (.t 0), none⟩,
                      ⟨some 59, .mv (.t 5), none⟩,
                      ⟨some 60, .iad 7 (.t 58) (.t 59), none⟩,
                      ⟨some 61, .fad (.t 60) 6, none⟩,
                      ⟨some 62, .ld false 1 (.t 61), none⟩,
                      ⟨some 63, .mv (.t 1), none⟩,
                      ⟨some 64, .call 191 [0] [(.t 62), (.t 63)], none⟩,
                      ⟨some 1, .mv (.t 64), none⟩] none))))))))))))))
       (.reg [0, 1, 5] [] [
         ⟨some 10, .mv (.t 5), none⟩,
         ⟨some 11, .bin .add (.t 10) (.c (.v false (.int .i64 1))), none⟩,
         ⟨some 5, .mv (.t 11), none⟩] none))

def pb191 : PC :=
.seq (.reg [0, 1] [] [
   ⟨some 4, .mv (.c (.v false (.int .i64 0))), none⟩] none)
 (.seq (.seq (.reg [0, 1, 5] [] [
     ⟨some 5, .mv (.c (.v false (.int .i64 0))), none⟩] none)
   (.blk 0 (.loop pl191_0)))
  (.seq (.reg [0, 1, 4] [] [
     ⟨some 65, .mv (.t 1), none⟩,
     ⟨some 4, .mv (.t 65), none⟩] none)
   (.ret)))

def pf191 : PF := ⟨[.s 4], [0], pb191⟩

-- loop.example/g00496/laws.markRowS
def pl193_0 : PC :=
.seq (.seq (.reg [0, 1, 5, 9] [] [
         ⟨some 6, .mv (.t 5), none⟩,
         ⟨some 7, .mv (.t 0), none⟩,
         ⟨some 8, .len (.t 7), none⟩,
         ⟨some 9, .bin .lss (.t 6) (.t 8), none⟩] none)
       (.cond (.t 9) (.skip)
        (.exit 0)))
      (.seq (.blk 1 (.seq (.reg [0, 1, 5] [] [
           ⟨some 12, .mv (.t 0), none⟩,
           ⟨some 13, .mv (.t 5), none⟩,
           ⟨some 14, .mv (.t 1), none⟩,
           ⟨some 15, .iad 2 (.t 12) (.t 13), none⟩,
           ⟨some 16, .fad (.t 15) 0, none⟩,
           ⟨none, .st 1 (.t 16) (.t 14), none⟩] none)
         (.seq (.reg [0, 1, 5] [] [
            ⟨some 17, .mv (.t 1), none⟩,
            ⟨some 18, .bin .add (.t 17) (.c (.v false (.int .i64 1))), none⟩,
            ⟨some 1, .mv (.t 18), none⟩] none)
          (.reg [0, 1, 5] [(25, 1)] [
            ⟨some 19, .mv (.t 0), none⟩,
            ⟨some 20, .mv (.t 5), none⟩,
            ⟨some 21, .iad 2 (.t 19) (.t 20), none⟩,
            ⟨some 22, .fad (.t 21) 1, none⟩,
            ⟨some 23, .ld false 1 (.t 22), none⟩,
            ⟨some 24, .mv (.t 1), none⟩,
            ⟨some 25, .call 197 [0] [(.t 23), (.t 24)], none⟩,
            ⟨some 1, .mv (.t 25), none⟩] none))))
       (.reg [0, 1, 5] [] [
         ⟨some 10, .mv (.t 5), none⟩,
         ⟨some 11, .bin .add (.t 10) (.c (.v false (.int .i64 1))), none⟩,
         ⟨some 5, .mv (.t 11), none⟩] none))

def pb193 : PC :=
.seq (.reg [0, 1] [] [
   ⟨some 4, .mv (.c (.v false (.int .i64 0))), none⟩] none)
 (.seq (.seq (.reg [0, 1, 5] [] [
     ⟨some 5, .mv (.c (.v false (.int .i64 0))), none⟩] none)
   (.blk 0 (.loop pl193_0)))
  (.seq (.reg [0, 1, 4] [] [
     ⟨some 26, .mv (.t 1), none⟩,
     ⟨some 4, .mv (.t 26), none⟩] none)
   (.ret)))

def pf193 : PF := ⟨[.s 4], [0], pb193⟩

-- loop.example/g00496/laws.markText
def pl196_0 : PC :=
.seq (.seq (.reg [0, 3, 7] [] [
          ⟨some 6, .mv (.t 0), none⟩,
          ⟨some 7, .bin .gtr (.t 6) (.c (.v false (.int .i64 0))), none⟩] none)
        (.cond (.t 7) (.skip)
         (.exit 0)))
       (.blk 1 (.seq (.reg [0, 3] [] [
           ⟨some 8, .mv (.t 0), none⟩,
           ⟨some 9, .bin .rem (.t 8) (.c (.v false (.int .i64 10))), none⟩,
           ⟨some 10, .bin .add (.c (.v false (.int .i64 48))) (.t 9), none⟩,
           ⟨some 11, .cvi .u8 (.t 10), none⟩,
           ⟨some 12, .bsl 1 [.int .u8 0] 1 [(0, (.t 11))], none⟩,
           ⟨some 13, .cvs (.t 12), none⟩,
           ⟨some 14, .mv (.t 3), none⟩,
           ⟨some 15, .bin .add (.t 13) (.t 14), none⟩,
           ⟨some 3, .mv (.t 15), none⟩] none)
         (.reg [0, 3] [] [
           ⟨some 16, .mv (.t 0), none⟩,
           ⟨some 17, .bin .quo (.t 16) (.c (.v false (.int .i64 10))), none⟩,
           ⟨some 0, .mv (.t 17), none⟩] none)))

def pb196 : PC :=
.seq (.reg [0] [] [
   ⟨some 2, .mv (.c (.v false (.str ⟨#[]⟩))), none⟩] none)
 (.seq (.seq (.reg [0, 5] [] [
     ⟨some 4, .mv (.t 0), none⟩,
     ⟨some 5, .bin .leq (.t 4) (.c (.v false (.int .i64 0))), none⟩] none)
   (.cond (.t 5) (.seq (.reg [2] [] [
       ⟨some 2, .mv (.c (.v false (.str ⟨#[109, 48]⟩))), none⟩] none)
     (.ret))
    (.skip)))
  (.seq (.reg [0, 3] [] [
     ⟨some 3, .mv (.c (.v false (.str ⟨#[]⟩))), none⟩] none)
   (.seq (.blk 0 (.loop pl196_0))
    (.seq (.reg [2] [] [
       ⟨some 18, .mv (.t 3), none⟩,
       ⟨some 19, .bin .add (.c (.v false (.str ⟨#[109]⟩))) (.t 18), none⟩,
       ⟨some 2, .mv (.t 19), none⟩] none)
     (.ret)))))

def pf196 : PF := ⟨[.s 2], [], pb196⟩

-- loop.example/g00496/laws.markValS
def pl197_0 : PC :=
.seq (.seq (.reg [0, 1, 5, 9] [] [
         ⟨some 6, .mv (.t 5), none⟩,
         ⟨some 7, .mv (.t 0), none⟩,
         ⟨some 8, .len (.t 7), none⟩,
         ⟨some 9, .bin .lss (.t 6) (.t 8), none⟩] none)
       (.cond (.t 9) (.skip)
        (.exit 0)))
      (.seq (.blk 1 (.seq (.reg [0, 1, 5] [] [
           ⟨some 12, .mv (.t 0), none⟩,
           ⟨some 13, .mv (.t 5), none⟩,
           ⟨some 14, .mv (.t 1), none⟩,
           ⟨some 15, .iad 3 (.t 12) (.t 13), none⟩,
           ⟨some 16, .fad (.t 15) 0, none⟩,
           ⟨none, .st 1 (.t 16) (.t 14), none⟩] none)
         (.seq (.reg [0, 1, 5] [] [
            ⟨some 17, .mv (.t 1), none⟩,
            ⟨some 18, .bin .add (.t 17) (.c (.v false (.int .i64 1))), none⟩,
            ⟨some 1, .mv (.t 18), none⟩] none)
          (.seq (.reg [0, 1, 5] [] [
             ⟨some 19, .mv (.t 0), none⟩,
             ⟨some 20, .mv (.t 5), none⟩,
             ⟨some 21, .mv (.t 1), none⟩,
             ⟨some 22, .iad 3 (.t 19) (.t 20), none⟩,
             ⟨some 23, .fad (.t 22) 1, none⟩,
             ⟨none, .st 1 (.t 23) (.t 21), none⟩] none)
           (.seq (.reg [0, 1, 5] [] [
              ⟨some 24, .mv (.t 1), none⟩,
              ⟨some 25, .bin .add (.t 24) (.c (.v false (.int .i64 1))), none⟩,
              ⟨some 1, .mv (.t 25), none⟩] none)
            (.seq (.reg [0, 1, 5] [] [
               ⟨some 26, .mv (.t 0), none⟩,
               ⟨some 27, .mv (.t 5), none⟩,
               ⟨some 28, .mv (.t 1), none⟩,
               ⟨some 29, .call 196 [] [(.t 28)], none⟩,
               ⟨some 30, .iad 3 (.t 26) (.t 27), none⟩,
               ⟨some 31, .fad (.t 30) 2, none⟩,
               ⟨none, .st 1 (.t 31) (.t 29), none⟩] none)
             (.reg [0, 1, 5] [] [
               ⟨some 32, .mv (.t 1), none⟩,
               ⟨some 33, .bin .add (.t 32) (.c (.v false (.int .i64 1))), none⟩,
               ⟨some 1, .mv (.t 33), none⟩] none)))))))
       (.reg [0, 1, 5] [] [
         ⟨some 10, .mv (.t 5), none⟩,
         ⟨some 11, .bin .add (.t 10) (.c (.v false (.int .i64 1))), none⟩,
         ⟨some 5, .mv (.t 11), none⟩] none))

def pb197 : PC :=
.seq (.reg [0, 1] [] [
   ⟨some 4, .mv (.c (.v false (.int .i64 0))), none⟩] none)
 (.seq (.seq (.reg [0, 1, 5] [] [
     ⟨some 5, .mv (.c (.v false (.int .i64 0))), none⟩] none)
   (.blk 0 (.loop pl197_0)))
  (.seq (.reg [0, 4] [] [
     ⟨some 34, .mv (.t 1), none⟩,
     ⟨some 4, .mv (.t 34), none⟩] none)
   (.ret)))

def pf197 : PF := ⟨[.s 4], [0], pb197⟩

-- loop.example/g00496/laws.szDeed
def pb216 : PC :=
.seq (.reg [1, 2] [] [
   ⟨some 2, .box 25 (.t 0), none⟩,
   ⟨some 4, .mv (.c (.v false (.int .i64 0))), none⟩] none)
 (.seq (.reg [1, 2] [(8, 1)] [
    ⟨some 5, .fad (.t 2) 2, none⟩,
    ⟨some 6, .ld false 1 (.t 5), none⟩,
    ⟨some 7, .mv (.t 1), none⟩,
    ⟨some 8, .call 232 [] [(.t 6), (.t 7)], none⟩,
    ⟨some 1, .mv (.t 8), none⟩] none)
  (.seq (.seq (.reg [1, 2, 10] [] [
      ⟨some 9, .mv (.t 1), none⟩,
      ⟨some 10, .bin .lss (.t 9) (.c (.v false (.int .i64 0))), none⟩] none)
    (.cond (.t 10) (.seq (.reg [4] [] [
        ⟨some 4, .mv (.c (.v false (.int .i64 (-1)))), none⟩] none)
      (.ret))
     (.skip)))
   (.seq (.reg [1, 2] [(14, 1)] [
      ⟨some 11, .fad (.t 2) 4, none⟩,
      ⟨some 12, .ld true 10 (.t 11), none⟩,
      ⟨some 13, .mv (.t 1), none⟩,
      ⟨some 14, .call 222 [] [(.t 12), (.t 13)], none⟩,
      ⟨some 1, .mv (.t 14), none⟩] none)
    (.seq (.seq (.reg [1, 2, 16] [] [
        ⟨some 15, .mv (.t 1), none⟩,
        ⟨some 16, .bin .lss (.t 15) (.c (.v false (.int .i64 0))), none⟩] none)
      (.cond (.t 16) (.seq (.reg [4] [] [
          ⟨some 4, .mv (.c (.v false (.int .i64 (-1)))), none⟩] none)
        (.ret))
       (.skip)))
     (.seq (.reg [1] [(20, 1)] [
        ⟨some 17, .fad (.t 2) 14, none⟩,
        ⟨some 18, .ld true 6 (.t 17), none⟩,
        ⟨some 19, .mv (.t 1), none⟩,
        ⟨some 20, .call 224 [] [(.t 18), (.t 19)], none⟩,
        ⟨some 1, .mv (.t 20), none⟩] none)
      (.seq (.seq (.reg [1, 22] [] [
          ⟨some 21, .mv (.t 1), none⟩,
          ⟨some 22, .bin .lss (.t 21) (.c (.v false (.int .i64 0))), none⟩] none)
        (.cond (.t 22) (.seq (.reg [4] [] [
            ⟨some 4, .mv (.c (.v false (.int .i64 (-1)))), none⟩] none)
          (.ret))
         (.skip)))
       (.seq (.reg [1, 4] [] [
          ⟨some 23, .mv (.t 1), none⟩,
          ⟨some 4, .mv (.t 23), none⟩] none)
        (.ret))))))))

def pf216 : PF := ⟨[.s 4], [], pb216⟩

-- loop.example/g00496/laws.szDeedS
def pl217_0 : PC :=
.seq (.seq (.reg [0, 1, 5, 15] [] [
           ⟨some 12, .mv (.t 5), none⟩,
           ⟨some 13, .mv (.t 0), none⟩,
           ⟨some 14, .len (.t 13), none⟩,
           ⟨some 15, .bin .lss (.t 12) (.t 14), none⟩] none)
         (.cond (.t 15) (.skip)
          (.exit 0)))
        (.seq (.blk 1 (.seq (.reg [0, 1, 5] [(23, 1)] [
             ⟨some 18, .mv (.t 0), none⟩,
             ⟨some 19, .mv (.t 5), none⟩,
             ⟨some 20, .iad 25 (.t 18) (.t 19), none⟩,
             ⟨some 21, .ld true 25 (.t 20), none⟩,
             ⟨some 22, .mv (.t 1), none⟩,
             ⟨some 23, .call 216 [] [(.t 21), (.t 22)], none⟩,
             ⟨some 1, .mv (.t 23), none⟩] none)
           (.seq (.reg [0, 1, 5, 25] [] [
              ⟨some 24, .mv (.t 1), none⟩,
              ⟨some 25, .bin .lss (.t 24) (.c (.v false (.int .i64 0))), none⟩] none)
            (.cond (.t 25) (.seq (.reg [4] [] [
                ⟨some 4, .mv (.c (.v false (.int .i64 (-1)))), none⟩] none)
              (.ret))
             (.skip)))))
         (.reg [0, 1, 5] [] [
           ⟨some 16, .mv (.t 5), none⟩,
           ⟨some 17, .bin .add (.t 16) (.c (.v false (.int .i64 1))), none⟩,
           ⟨some 5, .mv (.t 17), none⟩] none))

def pb217 : PC :=
.seq (.reg [0, 1] [] [
   ⟨some 4, .mv (.c (.v false (.int .i64 0))), none⟩] none)
 (.seq (.reg [0, 1] [] [
    ⟨some 6, .mv (.t 1), none⟩,
    ⟨some 7, .mv (.t 0), none⟩,
    ⟨some 8, .len (.t 7), none⟩,
    ⟨some 9, .bin .sub (.t 6) (.t 8), none⟩,
    ⟨some 1, .mv (.t 9), none⟩] none)
  (.seq (.seq (.reg [0, 1, 11] [] [
      ⟨some 10, .mv (.t 1), none⟩,
      ⟨some 11, .bin .lss (.t 10) (.c (.v false (.int .i64 0))), none⟩] none)
    (.cond (.t 11) (.seq (.reg [4] [] [
        ⟨some 4, .mv (.c (.v false (.int .i64 (-1)))), none⟩] none)
      (.ret))
     (.skip)))
   (.seq (.seq (.reg [0, 1, 5] [] [
       ⟨some 5, .mv (.c (.v false (.int .i64 0))), none⟩] none)
     (.blk 0 (.loop pl217_0)))
    (.seq (.reg [1, 4] [] [
       ⟨some 26, .mv (.t 1), none⟩,
       ⟨some 4, .mv (.t 26), none⟩] none)
     (.ret)))))

def pf217 : PF := ⟨[.s 4], [], pb217⟩

-- loop.example/g00496/laws.szIntS
def pb219 : PC :=
.seq (.reg [0, 1] [] [
   ⟨some 4, .mv (.c (.v false (.int .i64 0))), none⟩] none)
 (.seq (.reg [1] [] [
    ⟨some 5, .mv (.t 1), none⟩,
    ⟨some 6, .mv (.t 0), none⟩,
    ⟨some 7, .len (.t 6), none⟩,
    ⟨some 8, .bin .sub (.t 5) (.t 7), none⟩,
    ⟨some 1, .mv (.t 8), none⟩] none)
  (.seq (.seq (.reg [1, 10] [] [
      ⟨some 9, .mv (.t 1), none⟩,
      ⟨some 10, .bin .lss (.t 9) (.c (.v false (.int .i64 0))), none⟩] none)
    (.cond (.t 10) (.seq (.reg [4] [] [
        ⟨some 4, .mv (.c (.v false (.int .i64 (-1)))), none⟩] none)
      (.ret))
     (.skip)))
   (.seq (.reg [4] [] [
      ⟨some 11, .mv (.t 1), none⟩,
      ⟨some 4, .mv (.t 11), none⟩] none)
    (.ret))))

def pf219 : PF := ⟨[.s 4], [], pb219⟩

-- loop.example/g00496/laws.szPred
def pb220 : PC :=
.seq (.reg [1, 2] [] [
   ⟨some 2, .box 7 (.t 0), none⟩,
   ⟨some 4, .mv (.c (.v false (.int .i64 0))), none⟩] none)
 (.seq (.reg [1, 2] [(8, 1)] [
    ⟨some 5, .fad (.t 2) 3, none⟩,
    ⟨some 6, .ld true 3 (.t 5), none⟩,
    ⟨some 7, .mv (.t 1), none⟩,
    ⟨some 8, .call 231 [] [(.t 6), (.t 7)], none⟩,
    ⟨some 1, .mv (.t 8), none⟩] none)
  (.seq (.seq (.reg [1, 2, 10] [] [
      ⟨some 9, .mv (.t 1), none⟩,
      ⟨some 10, .bin .lss (.t 9) (.c (.v false (.int .i64 0))), none⟩] none)
    (.cond (.t 10) (.seq (.reg [4] [] [
        ⟨some 4, .mv (.c (.v false (.int .i64 (-1)))), none⟩] none)
      (.ret))
     (.skip)))
   (.seq (.reg [1] [(14, 1)] [
      ⟨some 11, .fad (.t 2) 6, none⟩,
      ⟨some 12, .ld false 1 (.t 11), none⟩,
      ⟨some 13, .mv (.t 1), none⟩,
      ⟨some 14, .call 221 [] [(.t 12), (.t 13)], none⟩,
      ⟨some 1, .mv (.t 14), none⟩] none)
    (.seq (.seq (.reg [1, 16] [] [
        ⟨some 15, .mv (.t 1), none⟩,
        ⟨some 16, .bin .lss (.t 15) (.c (.v false (.int .i64 0))), none⟩] none)
      (.cond (.t 16) (.seq (.reg [4] [] [
          ⟨some 4, .mv (.c (.v false (.int .i64 (-1)))), none⟩] none)
        (.ret))
       (.skip)))
     (.seq (.reg [1, 4] [] [
        ⟨some 17, .mv (.t 1), none⟩,
        ⟨some 4, .mv (.t 17), none⟩] none)
      (.ret))))))

def pf220 : PF := ⟨[.s 4], [], pb220⟩

-- loop.example/g00496/laws.szPredS
def pl221_0 : PC :=
.seq (.seq (.reg [0, 1, 5, 15] [] [
           ⟨some 12, .mv (.t 5), none⟩,
           ⟨some 13, .mv (.t 0), none⟩,
           ⟨some 14, .len (.t 13), none⟩,
           ⟨some 15, .bin .lss (.t 12) (.t 14), none⟩] none)
         (.cond (.t 15) (.skip)
          (.exit 0)))
        (.seq (.blk 1 (.seq (.reg [0, 1, 5] [(23, 1)] [
             ⟨some 18, .mv (.t 0), none⟩,
             ⟨some 19, .mv (.t 5), none⟩,
             ⟨some 20, .iad 7 (.t 18) (.t 19), none⟩,
             ⟨some 21, .ld true 7 (.t 20), none⟩,
             ⟨some 22, .mv (.t 1), none⟩,
             ⟨some 23, .call 220 [] [(.t 21), (.t 22)], none⟩,
             ⟨some 1, .mv (.t 23), none⟩] none)
           (.seq (.reg [0, 1, 5, 25] [] [
              ⟨some 24, .mv (.t 1), none⟩,
              ⟨some 25, .bin .lss (.t 24) (.c (.v false (.int .i64 0))), none⟩] none)
            (.cond (.t 25) (.seq (.reg [4] [] [
                ⟨some 4, .mv (.c (.v false (.int .i64 (-1)))), none⟩] none)
              (.ret))
             (.skip)))))
         (.reg [0, 1, 5] [] [
           ⟨some 16, .mv (.t 5), none⟩,
           ⟨some 17, .bin .add (.t 16) (.c (.v false (.int .i64 1))), none⟩,
           ⟨some 5, .mv (.t 17), none⟩] none))

def pb221 : PC :=
.seq (.reg [0, 1] [] [
   ⟨some 4, .mv (.c (.v false (.int .i64 0))), none⟩] none)
 (.seq (.reg [0, 1] [] [
    ⟨some 6, .mv (.t 1), none⟩,
    ⟨some 7, .mv (.t 0), none⟩,
    ⟨some 8, .len (.t 7), none⟩,
    ⟨some 9, .bin .sub (.t 6) (.t 8), none⟩,
    ⟨some 1, .mv (.t 9), none⟩] none)
  (.seq (.seq (.reg [0, 1, 11] [] [
      ⟨some 10, .mv (.t 1), none⟩,
      ⟨some 11, .bin .lss (.t 10) (.c (.v false (.int .i64 0))), none⟩] none)
    (.cond (.t 11) (.seq (.reg [4] [] [
        ⟨some 4, .mv (.c (.v false (.int .i64 (-1)))), none⟩] none)
      (.ret))
     (.skip)))
   (.seq (.seq (.reg [0, 1, 5] [] [
       ⟨some 5, .mv (.c (.v false (.int .i64 0))), none⟩] none)
     (.blk 0 (.loop pl221_0)))
    (.seq (.reg [1, 4] [] [
       ⟨some 26, .mv (.t 1), none⟩,
       ⟨some 4, .mv (.t 26), none⟩] none)
     (.ret)))))

def pf221 : PF := ⟨[.s 4], [], pb221⟩

-- loop.example/g00496/laws.szQuery
def pb222 : PC :=
.seq (.reg [1, 2] [] [
   ⟨some 2, .box 10 (.t 0), none⟩,
   ⟨some 4, .mv (.c (.v false (.int .i64 0))), none⟩] none)
 (.seq (.reg [1, 2] [(8, 1)] [
    ⟨some 5, .fad (.t 2) 1, none⟩,
    ⟨some 6, .ld true 7 (.t 5), none⟩,
    ⟨some 7, .mv (.t 1), none⟩,
    ⟨some 8, .call 220 [] [(.t 6), (.t 7)], none⟩,
    ⟨some 1, .mv (.t 8), none⟩] none)
  (.seq (.seq (.reg [1, 2, 10] [] [
      ⟨some 9, .mv (.t 1), none⟩,
      ⟨some 10, .bin .lss (.t 9) (.c (.v false (.int .i64 0))), none⟩] none)
    (.cond (.t 10) (.seq (.reg [4] [] [
        ⟨some 4, .mv (.c (.v false (.int .i64 (-1)))), none⟩] none)
      (.ret))
     (.skip)))
   (.seq (.reg [1] [(14, 1)] [
      ⟨some 11, .fad (.t 2) 9, none⟩,
      ⟨some 12, .ld false 1 (.t 11), none⟩,
      ⟨some 13, .mv (.t 1), none⟩,
      ⟨some 14, .call 219 [] [(.t 12), (.t 13)], none⟩,
      ⟨some 1, .mv (.t 14), none⟩] none)
    (.seq (.seq (.reg [1, 16] [] [
        ⟨some 15, .mv (.t 1), none⟩,
        ⟨some 16, .bin .lss (.t 15) (.c (.v false (.int .i64 0))), none⟩] none)
      (.cond (.t 16) (.seq (.reg [4] [] [
          ⟨some 4, .mv (.c (.v false (.int .i64 (-1)))), none⟩] none)
        (.ret))
       (.skip)))
     (.seq (.reg [1, 4] [] [
        ⟨some 17, .mv (.t 1), none⟩,
        ⟨some 4, .mv (.t 17), none⟩] none)
      (.ret))))))

def pf222 : PF := ⟨[.s 4], [], pb222⟩

-- loop.example/g00496/laws.szResult
def pb224 : PC :=
.seq (.reg [1, 2] [] [
   ⟨some 2, .box 6 (.t 0), none⟩,
   ⟨some 4, .mv (.c (.v false (.int .i64 0))), none⟩] none)
 (.seq (.reg [1, 2] [(8, 1)] [
    ⟨some 5, .fad (.t 2) 0, none⟩,
    ⟨some 6, .ld false 1 (.t 5), none⟩,
    ⟨some 7, .mv (.t 1), none⟩,
    ⟨some 8, .call 226 [] [(.t 6), (.t 7)], none⟩,
    ⟨some 1, .mv (.t 8), none⟩] none)
  (.seq (.seq (.reg [1, 2, 10] [] [
      ⟨some 9, .mv (.t 1), none⟩,
      ⟨some 10, .bin .lss (.t 9) (.c (.v false (.int .i64 0))), none⟩] none)
    (.cond (.t 10) (.seq (.reg [4] [] [
        ⟨some 4, .mv (.c (.v false (.int .i64 (-1)))), none⟩] none)
      (.ret))
     (.skip)))
   (.seq (.reg [1] [(14, 1)] [
      ⟨some 11, .fad (.t 2) 3, none⟩,
      ⟨some 12, .ld true 3 (.t 11), none⟩,
      ⟨some 13, .mv (.t 1), none⟩,
      ⟨some 14, .call 231 [] [(.t 12), (.t 13)], none⟩,
      ⟨some 1, .mv (.t 14), none⟩] none)
    (.seq (.seq (.reg [1, 16] [] [
        ⟨some 15, .mv (.t 1), none⟩,
        ⟨some 16, .bin .lss (.t 15) (.c (.v false (.int .i64 0))), none⟩] none)
      (.cond (.t 16) (.seq (.reg [4] [] [
          ⟨some 4, .mv (.c (.v false (.int .i64 (-1)))), none⟩] none)
        (.ret))
       (.skip)))
     (.seq (.reg [1, 4] [] [
        ⟨some 17, .mv (.t 1), none⟩,
        ⟨some 4, .mv (.t 17), none⟩] none)
      (.ret))))))

def pf224 : PF := ⟨[.s 4], [], pb224⟩

-- loop.example/g00496/laws.szRow
def pb225 : PC :=
.seq (.reg [1, 2] [] [
   ⟨some 2, .box 2 (.t 0), none⟩,
   ⟨some 4, .mv (.c (.v false (.int .i64 0))), none⟩] none)
 (.seq (.reg [1] [(8, 1)] [
    ⟨some 5, .fad (.t 2) 1, none⟩,
    ⟨some 6, .ld false 1 (.t 5), none⟩,
    ⟨some 7, .mv (.t 1), none⟩,
    ⟨some 8, .call 232 [] [(.t 6), (.t 7)], none⟩,
    ⟨some 1, .mv (.t 8), none⟩] none)
  (.seq (.seq (.reg [1, 10] [] [
      ⟨some 9, .mv (.t 1), none⟩,
      ⟨some 10, .bin .lss (.t 9) (.c (.v false (.int .i64 0))), none⟩] none)
    (.cond (.t 10) (.seq (.reg [4] [] [
        ⟨some 4, .mv (.c (.v false (.int .i64 (-1)))), none⟩] none)
      (.ret))
     (.skip)))
   (.seq (.reg [1, 4] [] [
      ⟨some 11, .mv (.t 1), none⟩,
      ⟨some 4, .mv (.t 11), none⟩] none)
    (.ret))))

def pf225 : PF := ⟨[.s 4], [], pb225⟩

-- loop.example/g00496/laws.szRowS
def pl226_0 : PC :=
.seq (.seq (.reg [0, 1, 5, 15] [] [
           ⟨some 12, .mv (.t 5), none⟩,
           ⟨some 13, .mv (.t 0), none⟩,
           ⟨some 14, .len (.t 13), none⟩,
           ⟨some 15, .bin .lss (.t 12) (.t 14), none⟩] none)
         (.cond (.t 15) (.skip)
          (.exit 0)))
        (.seq (.blk 1 (.seq (.reg [0, 1, 5] [(23, 1)] [
             ⟨some 18, .mv (.t 0), none⟩,
             ⟨some 19, .mv (.t 5), none⟩,
             ⟨some 20, .iad 2 (.t 18) (.t 19), none⟩,
             ⟨some 21, .ld true 2 (.t 20), none⟩,
             ⟨some 22, .mv (.t 1), none⟩,
             ⟨some 23, .call 225 [] [(.t 21), (.t 22)], none⟩,
             ⟨some 1, .mv (.t 23), none⟩] none)
           (.seq (.reg [0, 1, 5, 25] [] [
              ⟨some 24, .mv (.t 1), none⟩,
              ⟨some 25, .bin .lss (.t 24) (.c (.v false (.int .i64 0))), none⟩] none)
            (.cond (.t 25) (.seq (.reg [4] [] [
                ⟨some 4, .mv (.c (.v false (.int .i64 (-1)))), none⟩] none)
              (.ret))
             (.skip)))))
         (.reg [0, 1, 5] [] [
           ⟨some 16, .mv (.t 5), none⟩,
           ⟨some 17, .bin .add (.t 16) (.c (.v false (.int .i64 1))), none⟩,
           ⟨some 5, .mv (.t 17), none⟩] none))

def pb226 : PC :=
.seq (.reg [0, 1] [] [
   ⟨some 4, .mv (.c (.v false (.int .i64 0))), none⟩] none)
 (.seq (.reg [0, 1] [] [
    ⟨some 6, .mv (.t 1), none⟩,
    ⟨some 7, .mv (.t 0), none⟩,
    ⟨some 8, .len (.t 7), none⟩,
    ⟨some 9, .bin .sub (.t 6) (.t 8), none⟩,
    ⟨some 1, .mv (.t 9), none⟩] none)
  (.seq (.seq (.reg [0, 1, 11] [] [
      ⟨some 10, .mv (.t 1), none⟩,
      ⟨some 11, .bin .lss (.t 10) (.c (.v false (.int .i64 0))), none⟩] none)
    (.cond (.t 11) (.seq (.reg [4] [] [
        ⟨some 4, .mv (.c (.v false (.int .i64 (-1)))), none⟩] none)
      (.ret))
     (.skip)))
   (.seq (.seq (.reg [0, 1, 5] [] [
       ⟨some 5, .mv (.c (.v false (.int .i64 0))), none⟩] none)
     (.blk 0 (.loop pl226_0)))
    (.seq (.reg [1, 4] [] [
       ⟨some 26, .mv (.t 1), none⟩,
       ⟨some 4, .mv (.t 26), none⟩] none)
     (.ret)))))

def pf226 : PF := ⟨[.s 4], [], pb226⟩

-- loop.example/g00496/laws.szVal
def pb231 : PC :=
.seq (.reg [1, 2] [] [
   ⟨some 2, .box 3 (.t 0), none⟩,
   ⟨some 4, .mv (.c (.v false (.int .i64 0))), none⟩] none)
 (.seq (.reg [1] [] [
    ⟨some 5, .mv (.t 1), none⟩,
    ⟨some 6, .fad (.t 2) 2, none⟩,
    ⟨some 7, .ld false 1 (.t 6), none⟩,
    ⟨some 8, .lens (.t 7), none⟩,
    ⟨some 9, .bin .sub (.t 5) (.t 8), none⟩,
    ⟨some 1, .mv (.t 9), none⟩] none)
  (.seq (.seq (.reg [1, 11] [] [
      ⟨some 10, .mv (.t 1), none⟩,
      ⟨some 11, .bin .lss (.t 10) (.c (.v false (.int .i64 0))), none⟩] none)
    (.cond (.t 11) (.seq (.reg [4] [] [
        ⟨some 4, .mv (.c (.v false (.int .i64 (-1)))), none⟩] none)
      (.ret))
     (.skip)))
   (.seq (.reg [4] [] [
      ⟨some 12, .mv (.t 1), none⟩,
      ⟨some 4, .mv (.t 12), none⟩] none)
    (.ret))))

def pf231 : PF := ⟨[.s 4], [], pb231⟩

-- loop.example/g00496/laws.szValS
def pl232_0 : PC :=
.seq (.seq (.reg [0, 1, 5, 15] [] [
           ⟨some 12, .mv (.t 5), none⟩,
           ⟨some 13, .mv (.t 0), none⟩,
           ⟨some 14, .len (.t 13), none⟩,
           ⟨some 15, .bin .lss (.t 12) (.t 14), none⟩] none)
         (.cond (.t 15) (.skip)
          (.exit 0)))
        (.seq (.blk 1 (.seq (.reg [0, 1, 5] [(23, 1)] [
             ⟨some 18, .mv (.t 0), none⟩,
             ⟨some 19, .mv (.t 5), none⟩,
             ⟨some 20, .iad 3 (.t 18) (.t 19), none⟩,
             ⟨some 21, .ld true 3 (.t 20), none⟩,
             ⟨some 22, .mv (.t 1), none⟩,
             ⟨some 23, .call 231 [] [(.t 21), (.t 22)], none⟩,
             ⟨some 1, .mv (.t 23), none⟩] none)
           (.seq (.reg [0, 1, 5, 25] [] [
              ⟨some 24, .mv (.t 1), none⟩,
              ⟨some 25, .bin .lss (.t 24) (.c (.v false (.int .i64 0))), none⟩] none)
            (.cond (.t 25) (.seq (.reg [4] [] [
                ⟨some 4, .mv (.c (.v false (.int .i64 (-1)))), none⟩] none)
              (.ret))
             (.skip)))))
         (.reg [0, 1, 5] [] [
           ⟨some 16, .mv (.t 5), none⟩,
           ⟨some 17, .bin .add (.t 16) (.c (.v false (.int .i64 1))), none⟩,
           ⟨some 5, .mv (.t 17), none⟩] none))

def pb232 : PC :=
.seq (.reg [0, 1] [] [
   ⟨some 4, .mv (.c (.v false (.int .i64 0))), none⟩] none)
 (.seq (.reg [0, 1] [] [
    ⟨some 6, .mv (.t 1), none⟩,
    ⟨some 7, .mv (.t 0), none⟩,
    ⟨some 8, .len (.t 7), none⟩,
    ⟨some 9, .bin .sub (.t 6) (.t 8), none⟩,
    ⟨some 1, .mv (.t 9), none⟩] none)
  (.seq (.seq (.reg [0, 1, 11] [] [
      ⟨some 10, .mv (.t 1), none⟩,
      ⟨some 11, .bin .lss (.t 10) (.c (.v false (.int .i64 0))), none⟩] none)
    (.cond (.t 11) (.seq (.reg [4] [] [
        ⟨some 4, .mv (.c (.v false (.int .i64 (-1)))), none⟩] none)
      (.ret))
     (.skip)))
   (.seq (.seq (.reg [0, 1, 5] [] [
       ⟨some 5, .mv (.c (.v false (.int .i64 0))), none⟩] none)
     (.blk 0 (.loop pl232_0)))
    (.seq (.reg [1, 4] [] [
       ⟨some 26, .mv (.t 1), none⟩,
       ⟨some 4, .mv (.t 26), none⟩] none)
     (.ret)))))

def pf232 : PF := ⟨[.s 4], [], pb232⟩

-- loop.example/g00496/laws.toDeed
def pb241 : PC :=
.seq (.reg [1, 2] [] [
   ⟨some 1, .box 25 (.t 0), none⟩,
   ⟨some 2, .alloc [(.v false (.int .i64 0)), (.v false (.int .i64 0)), (.nl 3), (.v false (.int .i64 0)), (.v false (.int .i64 0)), (.v false (.int .i64 0)), (.v false (.int .i64 0)), (.v false (.int .i64 0)), (.v false (.int .i64 0)), (.v false (.int .i64 0)), (.v false (.str ⟨#[]⟩)), (.nl 7), (.v false (.int .i64 0)), (.nl 1), (.nl 2), (.v false (.int .i64 0)), (.v false (.bool false)), (.v false (.int .i64 0)), (.v false (.int .i64 0)), (.v false (.str ⟨#[]⟩)), (.v false (.int .i64 0)), (.v false (.int .i64 0)), (.v false (.int .i64 0)), (.v false (.int .i64 0)), (.v false (.int .i64 0))], none⟩] none)
 (.seq (.reg [1, 2, 3] [] [
    ⟨some 3, .alloc [(.v false (.int .i64 0)), (.v false (.int .i64 0)), (.nl 3), (.v false (.int .i64 0)), (.v false (.int .i64 0)), (.v false (.int .i64 0)), (.v false (.int .i64 0)), (.v false (.int .i64 0)), (.v false (.int .i64 0)), (.v false (.int .i64 0)), (.v false (.str ⟨#[]⟩)), (.nl 7), (.v false (.int .i64 0)), (.nl 1), (.nl 2), (.v false (.int .i64 0)), (.v false (.bool false)), (.v false (.int .i64 0)), (.v false (.int .i64 0)), (.v false (.str ⟨#[]⟩)), (.v false (.int .i64 0)), (.v false (.int .i64 0)), (.v false (.int .i64 0)), (.v false (.int .i64 0)), (.v false (.int .i64 0))], none⟩] none)
  (.seq (.reg [1, 2, 3] [] [
     ⟨some 4, .fad (.t 1) 0, none⟩,
     ⟨some 5, .ld false 1 (.t 4), none⟩,
     ⟨some 6, .fad (.t 3) 0, none⟩,
     ⟨none, .st 1 (.t 6) (.t 5), none⟩] none)
   (.seq (.reg [1, 2, 3] [] [
      ⟨some 7, .fad (.t 1) 1, none⟩,
      ⟨some 8, .ld false 1 (.t 7), none⟩,
      ⟨some 9, .fad (.t 3) 1, none⟩,
      ⟨none, .st 1 (.t 9) (.t 8), none⟩] none)
    (.seq (.reg [1, 2, 3] [] [
       ⟨some 10, .fad (.t 1) 2, none⟩,
       ⟨some 11, .ld false 1 (.t 10), none⟩,
       ⟨some 12, .call 258 [] [(.t 11)], none⟩,
       ⟨some 13, .fad (.t 3) 2, none⟩,
       ⟨none, .st 1 (.t 13) (.t 12), none⟩] none)
     (.seq (.reg [1, 2, 3] [] [
        ⟨some 14, .fad (.t 1) 3, none⟩,
        ⟨some 15, .ld false 1 (.t 14), none⟩,
        ⟨some 16, .fad (.t 3) 3, none⟩,
        ⟨none, .st 1 (.t 16) (.t 15), none⟩] none)
      (.seq (.reg [1, 2, 3] [] [
         ⟨some 17, .fad (.t 1) 4, none⟩,
         ⟨some 18, .ld true 10 (.t 17), none⟩,
         ⟨some 19, .call 247 [] [(.t 18)], none⟩,
         ⟨some 20, .fad (.t 3) 4, none⟩,
         ⟨none, .st 10 (.t 20) (.t 19), none⟩] none)
       (.seq (.reg [1, 2, 3] [] [
          ⟨some 21, .fad (.t 1) 14, none⟩,
          ⟨some 22, .ld true 6 (.t 21), none⟩,
          ⟨some 23, .call 250 [] [(.t 22)], none⟩,
          ⟨some 24, .fad (.t 3) 14, none⟩,
          ⟨none, .st 6 (.t 24) (.t 23), none⟩] none)
        (.seq (.reg [1, 2, 3] [] [
           ⟨some 25, .fad (.t 1) 20, none⟩,
           ⟨some 26, .ld false 1 (.t 25), none⟩,
           ⟨some 27, .fad (.t 3) 20, none⟩,
           ⟨none, .st 1 (.t 27) (.t 26), none⟩] none)
         (.seq (.reg [1, 2, 3] [] [
            ⟨some 28, .fad (.t 1) 21, none⟩,
            ⟨some 29, .ld false 1 (.t 28), none⟩,
            ⟨some 30, .fad (.t 3) 21, none⟩,
            ⟨none, .st 1 (.t 30) (.t 29), none⟩] none)
          (.seq (.reg [1, 2, 3] [] [
             ⟨some 31, .fad (.t 1) 22, none⟩,
             ⟨some 32, .ld false 1 (.t 31), none⟩,
             ⟨some 33, .fad (.t 3) 22, none⟩,
             ⟨none, .st 1 (.t 33) (.t 32), none⟩] none)
           (.seq (.reg [1, 2, 3] [] [
              ⟨some 34, .fad (.t 1) 23, none⟩,
              ⟨some 35, .ld false 1 (.t 34), none⟩,
              ⟨some 36, .fad (.t 3) 23, none⟩,
              ⟨none, .st 1 (.t 36) (.t 35), none⟩] none)
            (.seq (.reg [2, 3] [] [
               ⟨some 37, .fad (.t 1) 24, none⟩,
               ⟨some 38, .ld false 1 (.t 37), none⟩,
               ⟨some 39, .fad (.t 3) 24, none⟩,
               ⟨none, .st 1 (.t 39) (.t 38), none⟩] none)
             (.seq (.reg [2] [] [
                ⟨some 40, .ld true 25 (.t 3), none⟩,
                ⟨none, .st 25 (.t 2) (.t 40), none⟩] none)
              (.ret))))))))))))))

def pf241 : PF := ⟨[.b 2 25 true], [], pb241⟩

-- loop.example/g00496/laws.toDeedS
def pl242_0 : PC :=
.seq (.seq (.reg [0, 3, 4, 11] [] [
          ⟨some 8, .mv (.t 4), none⟩,
          ⟨some 9, .mv (.t 0), none⟩,
          ⟨some 10, .len (.t 9), none⟩,
          ⟨some 11, .bin .lss (.t 8) (.t 10), none⟩] none)
        (.cond (.t 11) (.skip)
         (.exit 0)))
       (.seq (.blk 1 (.reg [0, 3, 4] [] [
           ⟨some 14, .mv (.t 3), none⟩,
           ⟨some 15, .mv (.t 4), none⟩,
           ⟨some 16, .mv (.t 0), none⟩,
           ⟨some 17, .mv (.t 4), none⟩,
           ⟨some 18, .iad 25 (.t 16) (.t 17), none⟩,
           ⟨some 19, .ld true 25 (.t 18), none⟩,
           ⟨some 20, .call 241 [] [(.t 19)], none⟩,
           ⟨some 21, .iad 25 (.t 14) (.t 15), none⟩,
           ⟨none, .st 25 (.t 21) (.t 20), none⟩] none))
        (.reg [0, 3, 4] [] [
          ⟨some 12, .mv (.t 4), none⟩,
          ⟨some 13, .bin .add (.t 12) (.c (.v false (.int .i64 1))), none⟩,
          ⟨some 4, .mv (.t 13), none⟩] none))

def pb242 : PC :=
.seq (.reg [0] [] [
   ⟨some 2, .mv (.c (.nl 25)), none⟩] none)
 (.seq (.reg [0, 3] [(7, 3)] [
    ⟨some 5, .mv (.t 0), none⟩,
    ⟨some 6, .len (.t 5), none⟩,
    ⟨some 7, .mks 25 280 [.int .i64 0, .int .i64 0, .sl 3 [], .int .i64 0, .int .i64 0, .int .i64 0, .int .i64 0, .int .i64 0, .int .i64 0, .int .i64 0, .str ⟨#[]⟩, .sl 7 [], .int .i64 0, .sl 1 [], .sl 2 [], .int .i64 0, .bool false, .int .i64 0, .int .i64 0, .str ⟨#[]⟩, .int .i64 0, .int .i64 0, .int .i64 0, .int .i64 0, .int .i64 0] (.t 6), none⟩,
    ⟨some 3, .mv (.t 7), none⟩] none)
  (.seq (.seq (.reg [0, 3, 4] [] [
      ⟨some 4, .mv (.c (.v false (.int .i64 0))), none⟩] none)
    (.blk 0 (.loop pl242_0)))
   (.seq (.reg [2, 3] [] [
      ⟨some 22, .mv (.t 3), none⟩,
      ⟨some 2, .mv (.t 22), none⟩] none)
    (.ret))))

def pf242 : PF := ⟨[.s 2], [], pb242⟩

-- loop.example/g00496/laws.toIntS
def pl244_0 : PC :=
.seq (.seq (.reg [0, 3, 4, 11] [] [
          ⟨some 8, .mv (.t 4), none⟩,
          ⟨some 9, .mv (.t 0), none⟩,
          ⟨some 10, .len (.t 9), none⟩,
          ⟨some 11, .bin .lss (.t 8) (.t 10), none⟩] none)
        (.cond (.t 11) (.skip)
         (.exit 0)))
       (.seq (.blk 1 (.reg [0, 3, 4] [] [
           ⟨some 14, .mv (.t 3), none⟩,
           ⟨some 15, .mv (.t 4), none⟩,
           ⟨some 16, .mv (.t 0), none⟩,
           ⟨some 17, .mv (.t 4), none⟩,
           ⟨some 18, .iad 1 (.t 16) (.t 17), none⟩,
           ⟨some 19, .ld false 1 (.t 18), none⟩,
           ⟨some 20, .iad 1 (.t 14) (.t 15), none⟩,
           ⟨none, .st 1 (.t 20) (.t 19), none⟩] none))
        (.reg [0, 3, 4] [] [
          ⟨some 12, .mv (.t 4), none⟩,
          ⟨some 13, .bin .add (.t 12) (.c (.v false (.int .i64 1))), none⟩,
          ⟨some 4, .mv (.t 13), none⟩] none))

def pb244 : PC :=
.seq (.reg [0] [] [
   ⟨some 2, .mv (.c (.nl 1)), none⟩] none)
 (.seq (.reg [0, 3] [(7, 3)] [
    ⟨some 5, .mv (.t 0), none⟩,
    ⟨some 6, .len (.t 5), none⟩,
    ⟨some 7, .mks 1 8 [.int .i64 0] (.t 6), none⟩,
    ⟨some 3, .mv (.t 7), none⟩] none)
  (.seq (.seq (.reg [0, 3, 4] [] [
      ⟨some 4, .mv (.c (.v false (.int .i64 0))), none⟩] none)
    (.blk 0 (.loop pl244_0)))
   (.seq (.reg [2, 3] [] [
      ⟨some 21, .mv (.t 3), none⟩,
      ⟨some 2, .mv (.t 21), none⟩] none)
    (.ret))))

def pf244 : PF := ⟨[.s 2], [], pb244⟩

-- loop.example/g00496/laws.toPred
def pb245 : PC :=
.seq (.reg [1, 2] [] [
   ⟨some 1, .box 7 (.t 0), none⟩,
   ⟨some 2, .alloc [(.v false (.int .i64 0)), (.v false (.int .i64 0)), (.v false (.int .i64 0)), (.v false (.int .i64 0)), (.v false (.int .i64 0)), (.v false (.str ⟨#[]⟩)), (.nl 7)], none⟩] none)
 (.seq (.reg [1, 2, 3] [] [
    ⟨some 3, .alloc [(.v false (.int .i64 0)), (.v false (.int .i64 0)), (.v false (.int .i64 0)), (.v false (.int .i64 0)), (.v false (.int .i64 0)), (.v false (.str ⟨#[]⟩)), (.nl 7)], none⟩] none)
  (.seq (.reg [1, 2, 3] [] [
     ⟨some 4, .fad (.t 1) 0, none⟩,
     ⟨some 5, .ld false 1 (.t 4), none⟩,
     ⟨some 6, .fad (.t 3) 0, none⟩,
     ⟨none, .st 1 (.t 6) (.t 5), none⟩] none)
   (.seq (.reg [1, 2, 3] [] [
      ⟨some 7, .fad (.t 1) 1, none⟩,
      ⟨some 8, .ld false 1 (.t 7), none⟩,
      ⟨some 9, .fad (.t 3) 1, none⟩,
      ⟨none, .st 1 (.t 9) (.t 8), none⟩] none)
    (.seq (.reg [1, 2, 3] [] [
       ⟨some 10, .fad (.t 1) 2, none⟩,
       ⟨some 11, .ld false 1 (.t 10), none⟩,
       ⟨some 12, .fad (.t 3) 2, none⟩,
       ⟨none, .st 1 (.t 12) (.t 11), none⟩] none)
     (.seq (.reg [1, 2, 3] [] [
        ⟨some 13, .fad (.t 1) 3, none⟩,
        ⟨some 14, .ld true 3 (.t 13), none⟩,
        ⟨some 15, .call 257 [] [(.t 14)], none⟩,
        ⟨some 16, .fad (.t 3) 3, none⟩,
        ⟨none, .st 3 (.t 16) (.t 15), none⟩] none)
      (.seq (.reg [2, 3] [] [
         ⟨some 17, .fad (.t 1) 6, none⟩,
         ⟨some 18, .ld false 1 (.t 17), none⟩,
         ⟨some 19, .call 246 [] [(.t 18)], none⟩,
         ⟨some 20, .fad (.t 3) 6, none⟩,
         ⟨none, .st 1 (.t 20) (.t 19), none⟩] none)
       (.seq (.reg [2] [] [
          ⟨some 21, .ld true 7 (.t 3), none⟩,
          ⟨none, .st 7 (.t 2) (.t 21), none⟩] none)
        (.ret))))))))

def pf245 : PF := ⟨[.b 2 7 true], [], pb245⟩

-- loop.example/g00496/laws.toPredS
def pl246_0 : PC :=
.seq (.seq (.reg [0, 3, 4, 11] [] [
          ⟨some 8, .mv (.t 4), none⟩,
          ⟨some 9, .mv (.t 0), none⟩,
          ⟨some 10, .len (.t 9), none⟩,
          ⟨some 11, .bin .lss (.t 8) (.t 10), none⟩] none)
        (.cond (.t 11) (.skip)
         (.exit 0)))
       (.seq (.blk 1 (.reg [0, 3, 4] [] [
           ⟨some 14, .mv (.t 3), none⟩,
           ⟨some 15, .mv (.t 4), none⟩,
           ⟨some 16, .mv (.t 0), none⟩,
           ⟨some 17, .mv (.t 4), none⟩,
           ⟨some 18, .iad 7 (.t 16) (.t 17), none⟩,
           ⟨some 19, .ld true 7 (.t 18), none⟩,
           ⟨some 20, .call 245 [] [(.t 19)], none⟩,
           ⟨some 21, .iad 7 (.t 14) (.t 15), none⟩,
           ⟨none, .st 7 (.t 21) (.t 20), none⟩] none))
        (.reg [0, 3, 4] [] [
          ⟨some 12, .mv (.t 4), none⟩,
          ⟨some 13, .bin .add (.t 12) (.c (.v false (.int .i64 1))), none⟩,
          ⟨some 4, .mv (.t 13), none⟩] none))

def pb246 : PC :=
.seq (.reg [0] [] [
   ⟨some 2, .mv (.c (.nl 7)), none⟩] none)
 (.seq (.reg [0, 3] [(7, 3)] [
    ⟨some 5, .mv (.t 0), none⟩,
    ⟨some 6, .len (.t 5), none⟩,
    ⟨some 7, .mks 7 80 [.int .i64 0, .int .i64 0, .int .i64 0, .int .i64 0, .int .i64 0, .str ⟨#[]⟩, .sl 7 []] (.t 6), none⟩,
    ⟨some 3, .mv (.t 7), none⟩] none)
  (.seq (.seq (.reg [0, 3, 4] [] [
      ⟨some 4, .mv (.c (.v false (.int .i64 0))), none⟩] none)
    (.blk 0 (.loop pl246_0)))
   (.seq (.reg [2, 3] [] [
      ⟨some 22, .mv (.t 3), none⟩,
      ⟨some 2, .mv (.t 22), none⟩] none)
    (.ret))))

def pf246 : PF := ⟨[.s 2], [], pb246⟩

-- loop.example/g00496/laws.toQuery
def pb247 : PC :=
.seq (.reg [1, 2] [] [
   ⟨some 1, .box 10 (.t 0), none⟩,
   ⟨some 2, .alloc [(.v false (.int .i64 0)), (.v false (.int .i64 0)), (.v false (.int .i64 0)), (.v false (.int .i64 0)), (.v false (.int .i64 0)), (.v false (.int .i64 0)), (.v false (.str ⟨#[]⟩)), (.nl 7), (.v false (.int .i64 0)), (.nl 1)], none⟩] none)
 (.seq (.reg [1, 2, 3] [] [
    ⟨some 3, .alloc [(.v false (.int .i64 0)), (.v false (.int .i64 0)), (.v false (.int .i64 0)), (.v false (.int .i64 0)), (.v false (.int .i64 0)), (.v false (.int .i64 0)), (.v false (.str ⟨#[]⟩)), (.nl 7), (.v false (.int .i64 0)), (.nl 1)], none⟩] none)
  (.seq (.reg [1, 2, 3] [] [
     ⟨some 4, .fad (.t 1) 0, none⟩,
     ⟨some 5, .ld false 1 (.t 4), none⟩,
     ⟨some 6, .fad (.t 3) 0, none⟩,
     ⟨none, .st 1 (.t 6) (.t 5), none⟩] none)
   (.seq (.reg [1, 2, 3] [] [
      ⟨some 7, .fad (.t 1) 1, none⟩,
      ⟨some 8, .ld true 7 (.t 7), none⟩,
      ⟨some 9, .call 245 [] [(.t 8)], none⟩,
      ⟨some 10, .fad (.t 3) 1, none⟩,
      ⟨none, .st 7 (.t 10) (.t 9), none⟩] none)
    (.seq (.reg [1, 2, 3] [] [
       ⟨some 11, .fad (.t 1) 8, none⟩,
       ⟨some 12, .ld false 1 (.t 11), none⟩,
       ⟨some 13, .fad (.t 3) 8, none⟩,
       ⟨none, .st 1 (.t 13) (.t 12), none⟩] none)
     (.seq (.reg [2, 3] [] [
        ⟨some 14, .fad (.t 1) 9, none⟩,
        ⟨some 15, .ld false 1 (.t 14), none⟩,
        ⟨some 16, .call 244 [] [(.t 15)], none⟩,
        ⟨some 17, .fad (.t 3) 9, none⟩,
        ⟨none, .st 1 (.t 17) (.t 16), none⟩] none)
      (.seq (.reg [2] [] [
         ⟨some 18, .ld true 10 (.t 3), none⟩,
         ⟨none, .st 10 (.t 2) (.t 18), none⟩] none)
       (.ret)))))))

def pf247 : PF := ⟨[.b 2 10 true], [], pb247⟩

-- loop.example/g00496/laws.toResult
def pb250 : PC :=
.seq (.reg [1, 2] [] [
   ⟨some 1, .box 6 (.t 0), none⟩,
   ⟨some 2, .alloc [(.nl 2), (.v false (.int .i64 0)), (.v false (.bool false)), (.v false (.int .i64 0)), (.v false (.int .i64 0)), (.v false (.str ⟨#[]⟩))], none⟩] none)
 (.seq (.reg [1, 2, 3] [] [
    ⟨some 3, .alloc [(.nl 2), (.v false (.int .i64 0)), (.v false (.bool false)), (.v false (.int .i64 0)), (.v false (.int .i64 0)), (.v false (.str ⟨#[]⟩))], none⟩] none)
  (.seq (.reg [1, 2, 3] [] [
     ⟨some 4, .fad (.t 1) 0, none⟩,
     ⟨some 5, .ld false 1 (.t 4), none⟩,
     ⟨some 6, .call 252 [] [(.t 5)], none⟩,
     ⟨some 7, .fad (.t 3) 0, none⟩,
     ⟨none, .st 1 (.t 7) (.t 6), none⟩] none)
   (.seq (.reg [1, 2, 3] [] [
      ⟨some 8, .fad (.t 1) 1, none⟩,
      ⟨some 9, .ld false 1 (.t 8), none⟩,
      ⟨some 10, .fad (.t 3) 1, none⟩,
      ⟨none, .st 1 (.t 10) (.t 9), none⟩] none)
    (.seq (.reg [1, 2, 3] [] [
       ⟨some 11, .fad (.t 1) 2, none⟩,
       ⟨some 12, .ld false 1 (.t 11), none⟩,
       ⟨some 13, .fad (.t 3) 2, none⟩,
       ⟨none, .st 1 (.t 13) (.t 12), none⟩] none)
     (.seq (.reg [2, 3] [] [
        ⟨some 14, .fad (.t 1) 3, none⟩,
        ⟨some 15, .ld true 3 (.t 14), none⟩,
        ⟨some 16, .call 257 [] [(.t 15)], none⟩,
        ⟨some 17, .fad (.t 3) 3, none⟩,
        ⟨none, .st 3 (.t 17) (.t 16), none⟩] none)
      (.seq (.reg [2] [] [
         ⟨some 18, .ld true 6 (.t 3), none⟩,
         ⟨none, .st 6 (.t 2) (.t 18), none⟩] none)
       (.ret)))))))

def pf250 : PF := ⟨[.b 2 6 true], [], pb250⟩

-- loop.example/g00496/laws.toRow
def pb251 : PC :=
.seq (.reg [1, 2] [] [
   ⟨some 1, .box 2 (.t 0), none⟩,
   ⟨some 2, .alloc [(.v false (.int .i64 0)), (.nl 3)], none⟩] none)
 (.seq (.reg [1, 2, 3] [] [
    ⟨some 3, .alloc [(.v false (.int .i64 0)), (.nl 3)], none⟩] none)
  (.seq (.reg [1, 2, 3] [] [
     ⟨some 4, .fad (.t 1) 0, none⟩,
     ⟨some 5, .ld false 1 (.t 4), none⟩,
     ⟨some 6, .fad (.t 3) 0, none⟩,
     ⟨none, .st 1 (.t 6) (.t 5), none⟩] none)
   (.seq (.reg [2, 3] [] [
      ⟨some 7, .fad (.t 1) 1, none⟩,
      ⟨some 8, .ld false 1 (.t 7), none⟩,
      ⟨some 9, .call 258 [] [(.t 8)], none⟩,
      ⟨some 10, .fad (.t 3) 1, none⟩,
      ⟨none, .st 1 (.t 10) (.t 9), none⟩] none)
    (.seq (.reg [2] [] [
       ⟨some 11, .ld true 2 (.t 3), none⟩,
       ⟨none, .st 2 (.t 2) (.t 11), none⟩] none)
     (.ret)))))

def pf251 : PF := ⟨[.b 2 2 true], [], pb251⟩

-- loop.example/g00496/laws.toRowS
def pl252_0 : PC :=
.seq (.seq (.reg [0, 3, 4, 11] [] [
          ⟨some 8, .mv (.t 4), none⟩,
          ⟨some 9, .mv (.t 0), none⟩,
          ⟨some 10, .len (.t 9), none⟩,
          ⟨some 11, .bin .lss (.t 8) (.t 10), none⟩] none)
        (.cond (.t 11) (.skip)
         (.exit 0)))
       (.seq (.blk 1 (.reg [0, 3, 4] [] [
           ⟨some 14, .mv (.t 3), none⟩,
           ⟨some 15, .mv (.t 4), none⟩,
           ⟨some 16, .mv (.t 0), none⟩,
           ⟨some 17, .mv (.t 4), none⟩,
           ⟨some 18, .iad 2 (.t 16) (.t 17), none⟩,
           ⟨some 19, .ld true 2 (.t 18), none⟩,
           ⟨some 20, .call 251 [] [(.t 19)], none⟩,
           ⟨some 21, .iad 2 (.t 14) (.t 15), none⟩,
           ⟨none, .st 2 (.t 21) (.t 20), none⟩] none))
        (.reg [0, 3, 4] [] [
          ⟨some 12, .mv (.t 4), none⟩,
          ⟨some 13, .bin .add (.t 12) (.c (.v false (.int .i64 1))), none⟩,
          ⟨some 4, .mv (.t 13), none⟩] none))

def pb252 : PC :=
.seq (.reg [0] [] [
   ⟨some 2, .mv (.c (.nl 2)), none⟩] none)
 (.seq (.reg [0, 3] [(7, 3)] [
    ⟨some 5, .mv (.t 0), none⟩,
    ⟨some 6, .len (.t 5), none⟩,
    ⟨some 7, .mks 2 32 [.int .i64 0, .sl 3 []] (.t 6), none⟩,
    ⟨some 3, .mv (.t 7), none⟩] none)
  (.seq (.seq (.reg [0, 3, 4] [] [
      ⟨some 4, .mv (.c (.v false (.int .i64 0))), none⟩] none)
    (.blk 0 (.loop pl252_0)))
   (.seq (.reg [2, 3] [] [
      ⟨some 22, .mv (.t 3), none⟩,
      ⟨some 2, .mv (.t 22), none⟩] none)
    (.ret))))

def pf252 : PF := ⟨[.s 2], [], pb252⟩

-- loop.example/g00496/laws.toVal
def pb257 : PC :=
.seq (.reg [1, 2] [] [
   ⟨some 1, .box 3 (.t 0), none⟩,
   ⟨some 2, .alloc [(.v false (.int .i64 0)), (.v false (.int .i64 0)), (.v false (.str ⟨#[]⟩))], none⟩] none)
 (.seq (.reg [1, 2, 3] [] [
    ⟨some 3, .alloc [(.v false (.int .i64 0)), (.v false (.int .i64 0)), (.v false (.str ⟨#[]⟩))], none⟩] none)
  (.seq (.reg [1, 2, 3] [] [
     ⟨some 4, .fad (.t 1) 0, none⟩,
     ⟨some 5, .ld false 1 (.t 4), none⟩,
     ⟨some 6, .fad (.t 3) 0, none⟩,
     ⟨none, .st 1 (.t 6) (.t 5), none⟩] none)
   (.seq (.reg [1, 2, 3] [] [
      ⟨some 7, .fad (.t 1) 1, none⟩,
      ⟨some 8, .ld false 1 (.t 7), none⟩,
      ⟨some 9, .fad (.t 3) 1, none⟩,
      ⟨none, .st 1 (.t 9) (.t 8), none⟩] none)
    (.seq (.reg [2, 3] [] [
       ⟨some 10, .fad (.t 1) 2, none⟩,
       ⟨some 11, .ld false 1 (.t 10), none⟩,
       ⟨some 12, .fad (.t 3) 2, none⟩,
       ⟨none, .st 1 (.t 12) (.t 11), none⟩] none)
     (.seq (.reg [2] [] [
        ⟨some 13, .ld true 3 (.t 3), none⟩,
        ⟨none, .st 3 (.t 2) (.t 13), none⟩] none)
      (.ret))))))

def pf257 : PF := ⟨[.b 2 3 true], [], pb257⟩

-- loop.example/g00496/laws.toValS
def pl258_0 : PC :=
.seq (.seq (.reg [0, 3, 4, 11] [] [
          ⟨some 8, .mv (.t 4), none⟩,
          ⟨some 9, .mv (.t 0), none⟩,
          ⟨some 10, .len (.t 9), none⟩,
          ⟨some 11, .bin .lss (.t 8) (.t 10), none⟩] none)
        (.cond (.t 11) (.skip)
         (.exit 0)))
       (.seq (.blk 1 (.reg [0, 3, 4] [] [
           ⟨some 14, .mv (.t 3), none⟩,
           ⟨some 15, .mv (.t 4), none⟩,
           ⟨some 16, .mv (.t 0), none⟩,
           ⟨some 17, .mv (.t 4), none⟩,
           ⟨some 18, .iad 3 (.t 16) (.t 17), none⟩,
           ⟨some 19, .ld true 3 (.t 18), none⟩,
           ⟨some 20, .call 257 [] [(.t 19)], none⟩,
           ⟨some 21, .iad 3 (.t 14) (.t 15), none⟩,
           ⟨none, .st 3 (.t 21) (.t 20), none⟩] none))
        (.reg [0, 3, 4] [] [
          ⟨some 12, .mv (.t 4), none⟩,
          ⟨some 13, .bin .add (.t 12) (.c (.v false (.int .i64 1))), none⟩,
          ⟨some 4, .mv (.t 13), none⟩] none))

def pb258 : PC :=
.seq (.reg [0] [] [
   ⟨some 2, .mv (.c (.nl 3)), none⟩] none)
 (.seq (.reg [0, 3] [(7, 3)] [
    ⟨some 5, .mv (.t 0), none⟩,
    ⟨some 6, .len (.t 5), none⟩,
    ⟨some 7, .mks 3 32 [.int .i64 0, .int .i64 0, .str ⟨#[]⟩] (.t 6), none⟩,
    ⟨some 3, .mv (.t 7), none⟩] none)
  (.seq (.seq (.reg [0, 3, 4] [] [
      ⟨some 4, .mv (.c (.v false (.int .i64 0))), none⟩] none)
    (.blk 0 (.loop pl258_0)))
   (.seq (.reg [2, 3] [] [
      ⟨some 22, .mv (.t 3), none⟩,
      ⟨some 2, .mv (.t 22), none⟩] none)
    (.ret))))

def pf258 : PF := ⟨[.s 2], [], pb258⟩

-- loop.example/g00496/spec.Order
def pl317_0 : PC :=
.seq (.seq (.reg [0, 3, 4, 5, 39] [] [
                  ⟨some 21, .mv (.t 5), none⟩,
                  ⟨some 22, .bin .gtr (.t 21) (.c (.v false (.int .i64 0))), none⟩,
                  ⟨some 23, .mv (.t 22), none⟩,
                  ⟨some 24, .mv (.t 0), some (23, true)⟩,
                  ⟨some 25, .mv (.t 3), some (23, true)⟩,
                  ⟨some 26, .mv (.t 5), some (23, true)⟩,
                  ⟨some 27, .bin .sub (.t 26) (.c (.v false (.int .i64 1))), some (23, true)⟩,
                  ⟨some 28, .iad 1 (.t 25) (.t 27), some (23, true)⟩,
                  ⟨some 29, .ld false 1 (.t 28), some (23, true)⟩,
                  ⟨some 30, .iad 25 (.t 24) (.t 29), some (23, true)⟩,
                  ⟨some 31, .fad (.t 30) 23, some (23, true)⟩,
                  ⟨some 32, .ld false 1 (.t 31), some (23, true)⟩,
                  ⟨some 33, .mv (.t 0), some (23, true)⟩,
                  ⟨some 34, .mv (.t 4), some (23, true)⟩,
                  ⟨some 35, .iad 25 (.t 33) (.t 34), some (23, true)⟩,
                  ⟨some 36, .fad (.t 35) 23, some (23, true)⟩,
                  ⟨some 37, .ld false 1 (.t 36), some (23, true)⟩,
                  ⟨some 38, .bin .gtr (.t 32) (.t 37), some (23, true)⟩,
                  ⟨some 39, .pick (.t 23) (.t 38) (.c (.v false (.bool false))), none⟩] (some []))
                (.cond (.t 39) (.skip)
                 (.exit 2)))
               (.blk 3 (.reg [0, 3, 4, 5] [] [
                  ⟨some 40, .mv (.t 5), none⟩,
                  ⟨some 41, .bin .sub (.t 40) (.c (.v false (.int .i64 1))), none⟩,
                  ⟨some 5, .mv (.t 41), none⟩] none))

def pl317_1 : PC :=
.seq (.seq (.reg [0, 3, 4, 10] [] [
          ⟨some 7, .mv (.t 4), none⟩,
          ⟨some 8, .mv (.t 0), none⟩,
          ⟨some 9, .len (.t 8), none⟩,
          ⟨some 10, .bin .lss (.t 7) (.t 9), none⟩] none)
        (.cond (.t 10) (.skip)
         (.exit 0)))
       (.seq (.blk 1 (.seq (.seq (.reg [0, 3, 4, 18] [] [
             ⟨some 13, .mv (.t 0), none⟩,
             ⟨some 14, .mv (.t 4), none⟩,
             ⟨some 15, .iad 25 (.t 13) (.t 14), none⟩,
             ⟨some 16, .fad (.t 15) 23, none⟩,
             ⟨some 17, .ld false 1 (.t 16), none⟩,
             ⟨some 18, .bin .eql (.t 17) (.c (.v false (.int .i64 (-1)))), none⟩] none)
           (.cond (.t 18) (.exit 1)
            (.skip)))
          (.seq (.reg [0, 3, 4, 5] [] [
             ⟨some 19, .mv (.t 3), none⟩,
             ⟨some 20, .len (.t 19), none⟩,
             ⟨some 5, .mv (.t 20), none⟩] none)
           (.seq (.blk 2 (.loop pl317_0))
            (.reg [0, 3, 4] [(53, 3)] [
              ⟨some 42, .bsl 1 [] 0 [], none⟩,
              ⟨some 43, .mv (.t 3), none⟩,
              ⟨some 44, .mv (.t 5), none⟩,
              ⟨some 45, .slc 1 (.t 43) none (some (.t 44)), none⟩,
              ⟨some 46, .appf 1 8 (.t 42) (.t 45), none⟩,
              ⟨some 47, .mv (.t 4), none⟩,
              ⟨some 48, .bsl 1 [.int .i64 0] 1 [(0, (.t 47))], none⟩,
              ⟨some 49, .appf 1 8 (.t 46) (.t 48), none⟩,
              ⟨some 50, .mv (.t 3), none⟩,
              ⟨some 51, .mv (.t 5), none⟩,
              ⟨some 52, .slc 1 (.t 50) (some (.t 51)) none, none⟩,
              ⟨some 53, .appf 1 8 (.t 49) (.t 52), none⟩,
              ⟨some 3, .mv (.t 53), none⟩] (some [(0, 3), (0, 6), (3, 6), (4, 6), (0, 10), (4, 10), (6, 10), (7, 10)]))))))
        (.reg [0, 3, 4] [] [
          ⟨some 11, .mv (.t 4), none⟩,
          ⟨some 12, .bin .add (.t 11) (.c (.v false (.int .i64 1))), none⟩,
          ⟨some 4, .mv (.t 12), none⟩] none))

def pb317 : PC :=
.seq (.reg [0] [] [
   ⟨some 2, .mv (.c (.nl 1)), none⟩] none)
 (.seq (.reg [0, 3] [(6, 3)] [
    ⟨some 6, .bsl 1 [] 0 [], none⟩,
    ⟨some 3, .mv (.t 6), none⟩] none)
  (.seq (.seq (.reg [0, 3, 4] [] [
      ⟨some 4, .mv (.c (.v false (.int .i64 0))), none⟩] none)
    (.blk 0 (.loop pl317_1)))
   (.seq (.reg [2, 3] [] [
      ⟨some 54, .mv (.t 3), none⟩,
      ⟨some 2, .mv (.t 54), none⟩] none)
    (.ret))))

def pf317 : PF := ⟨[.s 2], [], pb317⟩

-- slices.SortStableFunc[[]int,int]
def pb405 : PC :=
.reg [0] [] [
  ⟨some 4, .mv (.t 0), none⟩,
  ⟨some 5, .mv (.t 0), none⟩,
  ⟨some 6, .len (.t 5), none⟩,
  ⟨some 7, .mv (.t 1), none⟩,
  ⟨some 8, .call 408 [0] [(.t 4), (.t 6), (.t 7)], none⟩] none

def pf405 : PF := ⟨[], [0], pb405⟩

-- slices.insertionSortCmpFunc[int]
def pl406_0 : PC :=
.seq (.seq (.reg [0, 1, 2, 3, 8, 9, 34] [] [
             ⟨some 18, .mv (.t 9), none⟩,
             ⟨some 19, .mv (.t 1), none⟩,
             ⟨some 20, .bin .gtr (.t 18) (.t 19), none⟩,
             ⟨some 21, .mv (.t 20), none⟩,
             ⟨some 22, .mv (.t 3), some (21, true)⟩,
             ⟨some 23, .mv (.t 0), some (21, true)⟩,
             ⟨some 24, .mv (.t 9), some (21, true)⟩,
             ⟨some 25, .iad 1 (.t 23) (.t 24), some (21, true)⟩,
             ⟨some 26, .ld false 1 (.t 25), some (21, true)⟩,
             ⟨some 27, .mv (.t 0), some (21, true)⟩,
             ⟨some 28, .mv (.t 9), some (21, true)⟩,
             ⟨some 29, .bin .sub (.t 28) (.c (.v false (.int .i64 1))), some (21, true)⟩,
             ⟨some 30, .iad 1 (.t 27) (.t 29), some (21, true)⟩,
             ⟨some 31, .ld false 1 (.t 30), some (21, true)⟩,
             ⟨some 32, .callv (.t 22) [(.t 26), (.t 31)], some (21, true)⟩,
             ⟨some 33, .bin .lss (.t 32) (.c (.v false (.int .i64 0))), some (21, true)⟩,
             ⟨some 34, .pick (.t 21) (.t 33) (.c (.v false (.bool false))), none⟩] (some []))
           (.cond (.t 34) (.skip)
            (.exit 2)))
          (.seq (.blk 3 (.reg [0, 1, 2, 3, 8, 9] [] [
              ⟨some 37, .mv (.t 0), none⟩,
              ⟨some 38, .mv (.t 9), none⟩,
              ⟨some 39, .mv (.t 0), none⟩,
              ⟨some 40, .mv (.t 9), none⟩,
              ⟨some 41, .bin .sub (.t 40) (.c (.v false (.int .i64 1))), none⟩,
              ⟨some 42, .mv (.t 0), none⟩,
              ⟨some 43, .mv (.t 9), none⟩,
              ⟨some 44, .bin .sub (.t 43) (.c (.v false (.int .i64 1))), none⟩,
              ⟨some 45, .iad 1 (.t 42) (.t 44), none⟩,
              ⟨some 46, .ld false 1 (.t 45), none⟩,
              ⟨some 47, .mv (.t 0), none⟩,
              ⟨some 48, .mv (.t 9), none⟩,
              ⟨some 49, .iad 1 (.t 47) (.t 48), none⟩,
              ⟨some 50, .ld false 1 (.t 49), none⟩,
              ⟨some 51, .iad 1 (.t 37) (.t 38), none⟩,
              ⟨none, .st 1 (.t 51) (.t 46), none⟩,
              ⟨some 52, .iad 1 (.t 39) (.t 41), none⟩,
              ⟨none, .st 1 (.t 52) (.t 50), none⟩] (some [])))
           (.reg [0, 1, 2, 3, 8, 9] [] [
             ⟨some 35, .mv (.t 9), none⟩,
             ⟨some 36, .bin .sub (.t 35) (.c (.v false (.int .i64 1))), none⟩,
             ⟨some 9, .mv (.t 36), none⟩] none))

def pl406_1 : PC :=
.seq (.seq (.reg [0, 1, 2, 3, 8, 14] [] [
       ⟨some 12, .mv (.t 8), none⟩,
       ⟨some 13, .mv (.t 2), none⟩,
       ⟨some 14, .bin .lss (.t 12) (.t 13), none⟩] none)
     (.cond (.t 14) (.skip)
      (.exit 0)))
    (.seq (.blk 1 (.seq (.reg [0, 1, 2, 3, 8, 9] [] [
         ⟨some 17, .mv (.t 8), none⟩,
         ⟨some 9, .mv (.t 17), none⟩] none)
       (.blk 2 (.loop pl406_0))))
     (.reg [0, 1, 2, 3, 8] [] [
       ⟨some 15, .mv (.t 8), none⟩,
       ⟨some 16, .bin .add (.t 15) (.c (.v false (.int .i64 1))), none⟩,
       ⟨some 8, .mv (.t 16), none⟩] none))

def pb406 : PC :=
.seq (.reg [0, 1, 2, 3, 8] [] [
   ⟨some 10, .mv (.t 1), none⟩,
   ⟨some 11, .bin .add (.t 10) (.c (.v false (.int .i64 1))), none⟩,
   ⟨some 8, .mv (.t 11), none⟩] none)
 (.blk 0 (.loop pl406_1))

def pf406 : PF := ⟨[], [0], pb406⟩

-- slices.rotateCmpFunc[int]
def pl407_0 : PC :=
.seq (.seq (.reg [0, 2, 4, 10, 11, 20] [] [
         ⟨some 18, .mv (.t 10), none⟩,
         ⟨some 19, .mv (.t 11), none⟩,
         ⟨some 20, .bin .neq (.t 18) (.t 19), none⟩] none)
       (.cond (.t 20) (.skip)
        (.exit 0)))
      (.blk 1 (.seq (.reg [0, 2, 4, 10, 11, 23] [] [
          ⟨some 21, .mv (.t 10), none⟩,
          ⟨some 22, .mv (.t 11), none⟩,
          ⟨some 23, .bin .gtr (.t 21) (.t 22), none⟩] none)
        (.cond (.t 23) (.seq (.reg [0, 2, 4, 10, 11] [] [
            ⟨some 24, .mv (.t 0), none⟩,
            ⟨some 25, .mv (.t 2), none⟩,
            ⟨some 26, .mv (.t 10), none⟩,
            ⟨some 27, .bin .sub (.t 25) (.t 26), none⟩,
            ⟨some 28, .mv (.t 2), none⟩,
            ⟨some 29, .mv (.t 11), none⟩,
            ⟨some 30, .mv (.t 4), none⟩,
            ⟨some 31, .call 409 [0] [(.t 24), (.t 27), (.t 28), (.t 29), (.t 30)], none⟩] none)
          (.reg [0, 2, 4, 10, 11] [] [
            ⟨some 32, .mv (.t 10), none⟩,
            ⟨some 33, .mv (.t 11), none⟩,
            ⟨some 34, .bin .sub (.t 32) (.t 33), none⟩,
            ⟨some 10, .mv (.t 34), none⟩] none))
         (.seq (.reg [0, 2, 4, 10, 11] [] [
            ⟨some 35, .mv (.t 0), none⟩,
            ⟨some 36, .mv (.t 2), none⟩,
            ⟨some 37, .mv (.t 10), none⟩,
            ⟨some 38, .bin .sub (.t 36) (.t 37), none⟩,
            ⟨some 39, .mv (.t 2), none⟩,
            ⟨some 40, .mv (.t 11), none⟩,
            ⟨some 41, .bin .add (.t 39) (.t 40), none⟩,
            ⟨some 42, .mv (.t 10), none⟩,
            ⟨some 43, .bin .sub (.t 41) (.t 42), none⟩,
            ⟨some 44, .mv (.t 10), none⟩,
            ⟨some 45, .mv (.t 4), none⟩,
            ⟨some 46, .call 409 [0] [(.t 35), (.t 38), (.t 43), (.t 44), (.t 45)], none⟩] none)
          (.reg [0, 2, 4, 10, 11] [] [
            ⟨some 47, .mv (.t 11), none⟩,
            ⟨some 48, .mv (.t 10), none⟩,
            ⟨some 49, .bin .sub (.t 47) (.t 48), none⟩,
            ⟨some 11, .mv (.t 49), none⟩] none)))))

def pb407 : PC :=
.seq (.reg [0, 2, 3, 4, 10] [] [
   ⟨some 12, .mv (.t 2), none⟩,
   ⟨some 13, .mv (.t 1), none⟩,
   ⟨some 14, .bin .sub (.t 12) (.t 13), none⟩,
   ⟨some 10, .mv (.t 14), none⟩] none)
 (.seq (.reg [0, 2, 4, 10, 11] [] [
    ⟨some 15, .mv (.t 3), none⟩,
    ⟨some 16, .mv (.t 2), none⟩,
    ⟨some 17, .bin .sub (.t 15) (.t 16), none⟩,
    ⟨some 11, .mv (.t 17), none⟩] none)
  (.seq (.blk 0 (.loop pl407_0))
   (.reg [0] [] [
     ⟨some 50, .mv (.t 0), none⟩,
     ⟨some 51, .mv (.t 2), none⟩,
     ⟨some 52, .mv (.t 10), none⟩,
     ⟨some 53, .bin .sub (.t 51) (.t 52), none⟩,
     ⟨some 54, .mv (.t 2), none⟩,
     ⟨some 55, .mv (.t 10), none⟩,
     ⟨some 56, .mv (.t 4), none⟩,
     ⟨some 57, .call 409 [0] [(.t 50), (.t 53), (.t 54), (.t 55), (.t 56)], none⟩] none)))

def pf407 : PF := ⟨[], [0], pb407⟩

-- slices.stableCmpFunc[int]
def pl408_0 : PC :=
.seq (.seq (.reg [0, 1, 2, 6, 7, 8, 35] [] [
                ⟨some 33, .mv (.t 8), none⟩,
                ⟨some 34, .mv (.t 1), none⟩,
                ⟨some 35, .bin .leq (.t 33) (.t 34), none⟩] none)
              (.cond (.t 35) (.skip)
               (.exit 4)))
             (.blk 5 (.seq (.reg [0, 1, 2, 6, 8] [] [
                 ⟨some 36, .mv (.t 0), none⟩,
                 ⟨some 37, .mv (.t 7), none⟩,
                 ⟨some 38, .mv (.t 7), none⟩,
                 ⟨some 39, .mv (.t 6), none⟩,
                 ⟨some 40, .bin .add (.t 38) (.t 39), none⟩,
                 ⟨some 41, .mv (.t 8), none⟩,
                 ⟨some 42, .mv (.t 2), none⟩,
                 ⟨some 43, .call 410 [0] [(.t 36), (.t 37), (.t 40), (.t 41), (.t 42)], none⟩] none)
               (.seq (.reg [0, 1, 2, 6, 7, 8] [] [
                  ⟨some 44, .mv (.t 8), none⟩,
                  ⟨some 7, .mv (.t 44), none⟩] none)
                (.reg [0, 1, 2, 6, 7, 8] [] [
                  ⟨some 45, .mv (.t 8), none⟩,
                  ⟨some 46, .mv (.t 6), none⟩,
                  ⟨some 47, .bin .mul (.c (.v false (.int .i64 2))) (.t 46), none⟩,
                  ⟨some 48, .bin .add (.t 45) (.t 47), none⟩,
                  ⟨some 8, .mv (.t 48), none⟩] none))))

def pl408_1 : PC :=
.seq (.seq (.reg [0, 1, 2, 6, 30] [] [
          ⟨some 28, .mv (.t 6), none⟩,
          ⟨some 29, .mv (.t 1), none⟩,
          ⟨some 30, .bin .lss (.t 28) (.t 29), none⟩] none)
        (.cond (.t 30) (.skip)
         (.exit 2)))
       (.blk 3 (.seq (.reg [0, 1, 2, 6, 7, 8] [] [
           ⟨some 31, .mv (.t 6), none⟩,
           ⟨some 32, .bin .mul (.c (.v false (.int .i64 2))) (.t 31), none⟩,
           ⟨some 7, .mv (.c (.v false (.int .i64 0))), none⟩,
           ⟨some 8, .mv (.t 32), none⟩] none)
         (.seq (.blk 4 (.loop pl408_0))
          (.seq (.seq (.reg [0, 1, 2, 6, 7, 9] [] [
              ⟨some 49, .mv (.t 7), none⟩,
              ⟨some 50, .mv (.t 6), none⟩,
              ⟨some 51, .bin .add (.t 49) (.t 50), none⟩,
              ⟨some 9, .mv (.t 51), none⟩] none)
            (.seq (.reg [0, 1, 2, 6, 7, 9, 54] [] [
               ⟨some 52, .mv (.t 9), none⟩,
               ⟨some 53, .mv (.t 1), none⟩,
               ⟨some 54, .bin .lss (.t 52) (.t 53), none⟩] none)
             (.cond (.t 54) (.reg [0, 1, 2, 6] [] [
                ⟨some 55, .mv (.t 0), none⟩,
                ⟨some 56, .mv (.t 7), none⟩,
                ⟨some 57, .mv (.t 9), none⟩,
                ⟨some 58, .mv (.t 1), none⟩,
                ⟨some 59, .mv (.t 2), none⟩,
                ⟨some 60, .call 410 [0] [(.t 55), (.t 56), (.t 57), (.t 58), (.t 59)], none⟩] none)
              (.skip))))
           (.reg [0, 1, 2, 6] [] [
             ⟨some 61, .mv (.t 6), none⟩,
             ⟨some 62, .bin .mul (.t 61) (.c (.v false (.int .i64 2))), none⟩,
             ⟨some 6, .mv (.t 62), none⟩] none)))))

def pl408_2 : PC :=
.seq (.seq (.reg [0, 1, 2, 6, 7, 8, 13] [] [
         ⟨some 11, .mv (.t 8), none⟩,
         ⟨some 12, .mv (.t 1), none⟩,
         ⟨some 13, .bin .leq (.t 11) (.t 12), none⟩] none)
       (.cond (.t 13) (.skip)
        (.exit 0)))
      (.blk 1 (.seq (.reg [0, 1, 2, 6, 8] [] [
          ⟨some 14, .mv (.t 0), none⟩,
          ⟨some 15, .mv (.t 7), none⟩,
          ⟨some 16, .mv (.t 8), none⟩,
          ⟨some 17, .mv (.t 2), none⟩,
          ⟨some 18, .call 406 [0] [(.t 14), (.t 15), (.t 16), (.t 17)], none⟩] none)
        (.seq (.reg [0, 1, 2, 6, 7, 8] [] [
           ⟨some 19, .mv (.t 8), none⟩,
           ⟨some 7, .mv (.t 19), none⟩] none)
         (.reg [0, 1, 2, 6, 7, 8] [] [
           ⟨some 20, .mv (.t 8), none⟩,
           ⟨some 21, .mv (.t 6), none⟩,
           ⟨some 22, .bin .add (.t 20) (.t 21), none⟩,
           ⟨some 8, .mv (.t 22), none⟩] none))))

def pb408 : PC :=
.seq (.reg [0, 1, 2, 6] [] [
   ⟨some 6, .mv (.c (.v false (.int .i64 20))), none⟩] none)
 (.seq (.reg [0, 1, 2, 6, 7, 8] [] [
    ⟨some 10, .mv (.t 6), none⟩,
    ⟨some 7, .mv (.c (.v false (.int .i64 0))), none⟩,
    ⟨some 8, .mv (.t 10), none⟩] none)
  (.seq (.blk 0 (.loop pl408_2))
   (.seq (.reg [0, 1, 2, 6] [] [
      ⟨some 23, .mv (.t 0), none⟩,
      ⟨some 24, .mv (.t 7), none⟩,
      ⟨some 25, .mv (.t 1), none⟩,
      ⟨some 26, .mv (.t 2), none⟩,
      ⟨some 27, .call 406 [0] [(.t 23), (.t 24), (.t 25), (.t 26)], none⟩] none)
    (.blk 2 (.loop pl408_1)))))

def pf408 : PF := ⟨[], [0], pb408⟩

-- slices.swapRangeCmpFunc[int]
def pl409_0 : PC :=
.seq (.seq (.reg [0, 1, 2, 3, 10, 13] [] [
       ⟨some 11, .mv (.t 10), none⟩,
       ⟨some 12, .mv (.t 3), none⟩,
       ⟨some 13, .bin .lss (.t 11) (.t 12), none⟩] none)
     (.cond (.t 13) (.skip)
      (.exit 0)))
    (.seq (.blk 1 (.reg [0, 1, 2, 3, 10] [] [
        ⟨some 16, .mv (.t 0), none⟩,
        ⟨some 17, .mv (.t 1), none⟩,
        ⟨some 18, .mv (.t 10), none⟩,
        ⟨some 19, .bin .add (.t 17) (.t 18), none⟩,
        ⟨some 20, .mv (.t 0), none⟩,
        ⟨some 21, .mv (.t 2), none⟩,
        ⟨some 22, .mv (.t 10), none⟩,
        ⟨some 23, .bin .add (.t 21) (.t 22), none⟩,
        ⟨some 24, .mv (.t 0), none⟩,
        ⟨some 25, .mv (.t 2), none⟩,
        ⟨some 26, .mv (.t 10), none⟩,
        ⟨some 27, .bin .add (.t 25) (.t 26), none⟩,
        ⟨some 28, .iad 1 (.t 24) (.t 27), none⟩,
        ⟨some 29, .ld false 1 (.t 28), none⟩,
        ⟨some 30, .mv (.t 0), none⟩,
        ⟨some 31, .mv (.t 1), none⟩,
        ⟨some 32, .mv (.t 10), none⟩,
        ⟨some 33, .bin .add (.t 31) (.t 32), none⟩,
        ⟨some 34, .iad 1 (.t 30) (.t 33), none⟩,
        ⟨some 35, .ld false 1 (.t 34), none⟩,
        ⟨some 36, .iad 1 (.t 16) (.t 19), none⟩,
        ⟨none, .st 1 (.t 36) (.t 29), none⟩,
        ⟨some 37, .iad 1 (.t 20) (.t 23), none⟩,
        ⟨none, .st 1 (.t 37) (.t 35), none⟩] (some [])))
     (.reg [0, 1, 2, 3, 10] [] [
       ⟨some 14, .mv (.t 10), none⟩,
       ⟨some 15, .bin .add (.t 14) (.c (.v false (.int .i64 1))), none⟩,
       ⟨some 10, .mv (.t 15), none⟩] none))

def pb409 : PC :=
.seq (.reg [0, 1, 2, 3, 10] [] [
   ⟨some 10, .mv (.c (.v false (.int .i64 0))), none⟩] none)
 (.blk 0 (.loop pl409_0))

def pf409 : PF := ⟨[], [0], pb409⟩

-- slices.symMergeCmpFunc[int]
def pl410_0 : PC :=
.seq (.seq (.reg [0, 1, 2, 3, 4, 18, 19, 20, 21, 22, 23, 151] [] [
              ⟨some 149, .mv (.t 20), none⟩,
              ⟨some 150, .mv (.t 21), none⟩,
              ⟨some 151, .bin .lss (.t 149) (.t 150), none⟩] none)
            (.cond (.t 151) (.skip)
             (.exit 8)))
           (.blk 9 (.seq (.reg [0, 1, 2, 3, 4, 18, 19, 20, 21, 22, 23] [(157, 23)] [
               ⟨some 152, .mv (.t 20), none⟩,
               ⟨some 153, .mv (.t 21), none⟩,
               ⟨some 154, .bin .add (.t 152) (.t 153), none⟩,
               ⟨some 155, .cvi .u64 (.t 154), none⟩,
               ⟨some 156, .bin .shr (.t 155) (.c (.v false (.int .u64 1))), none⟩,
               ⟨some 157, .cvi .i64 (.t 156), none⟩,
               ⟨some 23, .mv (.t 157), none⟩] none)
             (.seq (.reg [0, 1, 2, 3, 4, 18, 19, 20, 21, 22, 23, 171] [] [
                ⟨some 158, .mv (.t 4), none⟩,
                ⟨some 159, .mv (.t 0), none⟩,
                ⟨some 160, .mv (.t 22), none⟩,
                ⟨some 161, .mv (.t 23), none⟩,
                ⟨some 162, .bin .sub (.t 160) (.t 161), none⟩,
                ⟨some 163, .iad 1 (.t 159) (.t 162), none⟩,
                ⟨some 164, .ld false 1 (.t 163), none⟩,
                ⟨some 165, .mv (.t 0), none⟩,
                ⟨some 166, .mv (.t 23), none⟩,
                ⟨some 167, .iad 1 (.t 165) (.t 166), none⟩,
                ⟨some 168, .ld false 1 (.t 167), none⟩,
                ⟨some 169, .callv (.t 158) [(.t 164), (.t 168)], none⟩,
                ⟨some 170, .bin .lss (.t 169) (.c (.v false (.int .i64 0))), none⟩,
                ⟨some 171, .un .not (.t 170), none⟩] (some []))
              (.cond (.t 171) (.reg [0, 1, 2, 3, 4, 18, 19, 20, 21, 22, 23] [] [
                 ⟨some 172, .mv (.t 23), none⟩,
                 ⟨some 173, .bin .add (.t 172) (.c (.v false (.int .i64 1))), none⟩,
                 ⟨some 20, .mv (.t 173), none⟩] none)
               (.reg [0, 1, 2, 3, 4, 18, 19, 20, 21, 22, 23] [] [
                 ⟨some 174, .mv (.t 23), none⟩,
                 ⟨some 21, .mv (.t 174), none⟩] none)))))

def pl410_1 : PC :=
.seq (.seq (.reg [0, 14, 17, 110] [] [
               ⟨some 108, .mv (.t 17), none⟩,
               ⟨some 109, .mv (.t 14), none⟩,
               ⟨some 110, .bin .gtr (.t 108) (.t 109), none⟩] none)
             (.cond (.t 110) (.skip)
              (.exit 6)))
            (.seq (.blk 7 (.reg [0, 14, 17] [] [
                ⟨some 113, .mv (.t 0), none⟩,
                ⟨some 114, .mv (.t 17), none⟩,
                ⟨some 115, .mv (.t 0), none⟩,
                ⟨some 116, .mv (.t 17), none⟩,
                ⟨some 117, .bin .sub (.t 116) (.c (.v false (.int .i64 1))), none⟩,
                ⟨some 118, .mv (.t 0), none⟩,
                ⟨some 119, .mv (.t 17), none⟩,
                ⟨some 120, .bin .sub (.t 119) (.c (.v false (.int .i64 1))), none⟩,
                ⟨some 121, .iad 1 (.t 118) (.t 120), none⟩,
                ⟨some 122, .ld false 1 (.t 121), none⟩,
                ⟨some 123, .mv (.t 0), none⟩,
                ⟨some 124, .mv (.t 17), none⟩,
                ⟨some 125, .iad 1 (.t 123) (.t 124), none⟩,
                ⟨some 126, .ld false 1 (.t 125), none⟩,
                ⟨some 127, .iad 1 (.t 113) (.t 114), none⟩,
                ⟨none, .st 1 (.t 127) (.t 122), none⟩,
                ⟨some 128, .iad 1 (.t 115) (.t 117), none⟩,
                ⟨none, .st 1 (.t 128) (.t 126), none⟩] (some [])))
             (.reg [0, 14, 17] [] [
               ⟨some 111, .mv (.t 17), none⟩,
               ⟨some 112, .bin .sub (.t 111) (.c (.v false (.int .i64 1))), none⟩,
               ⟨some 17, .mv (.t 112), none⟩] none))

def pl410_2 : PC :=
.seq (.seq (.reg [0, 2, 4, 14, 15, 16, 85] [] [
             ⟨some 83, .mv (.t 14), none⟩,
             ⟨some 84, .mv (.t 15), none⟩,
             ⟨some 85, .bin .lss (.t 83) (.t 84), none⟩] none)
           (.cond (.t 85) (.skip)
            (.exit 4)))
          (.blk 5 (.seq (.reg [0, 2, 4, 14, 15, 16] [(91, 16)] [
              ⟨some 86, .mv (.t 14), none⟩,
              ⟨some 87, .mv (.t 15), none⟩,
              ⟨some 88, .bin .add (.t 86) (.t 87), none⟩,
              ⟨some 89, .cvi .u64 (.t 88), none⟩,
              ⟨some 90, .bin .shr (.t 89) (.c (.v false (.int .u64 1))), none⟩,
              ⟨some 91, .cvi .i64 (.t 90), none⟩,
              ⟨some 16, .mv (.t 91), none⟩] none)
            (.seq (.reg [0, 2, 4, 14, 15, 16, 103] [] [
               ⟨some 92, .mv (.t 4), none⟩,
               ⟨some 93, .mv (.t 0), none⟩,
               ⟨some 94, .mv (.t 2), none⟩,
               ⟨some 95, .iad 1 (.t 93) (.t 94), none⟩,
               ⟨some 96, .ld false 1 (.t 95), none⟩,
               ⟨some 97, .mv (.t 0), none⟩,
               ⟨some 98, .mv (.t 16), none⟩,
               ⟨some 99, .iad 1 (.t 97) (.t 98), none⟩,
               ⟨some 100, .ld false 1 (.t 99), none⟩,
               ⟨some 101, .callv (.t 92) [(.t 96), (.t 100)], none⟩,
               ⟨some 102, .bin .lss (.t 101) (.c (.v false (.int .i64 0))), none⟩,
               ⟨some 103, .un .not (.t 102), none⟩] (some []))
             (.cond (.t 103) (.reg [0, 2, 4, 14, 15, 16] [] [
                ⟨some 104, .mv (.t 16), none⟩,
                ⟨some 105, .bin .add (.t 104) (.c (.v false (.int .i64 1))), none⟩,
                ⟨some 14, .mv (.t 105), none⟩] none)
              (.reg [0, 2, 4, 14, 15, 16] [] [
                ⟨some 106, .mv (.t 16), none⟩,
                ⟨some 15, .mv (.t 106), none⟩] none)))))

def pl410_3 : PC :=
.seq (.seq (.reg [0, 10, 13, 58] [] [
              ⟨some 55, .mv (.t 13), none⟩,
              ⟨some 56, .mv (.t 10), none⟩,
              ⟨some 57, .bin .sub (.t 56) (.c (.v false (.int .i64 1))), none⟩,
              ⟨some 58, .bin .lss (.t 55) (.t 57), none⟩] none)
            (.cond (.t 58) (.skip)
             (.exit 2)))
           (.seq (.blk 3 (.reg [0, 10, 13] [] [
               ⟨some 61, .mv (.t 0), none⟩,
               ⟨some 62, .mv (.t 13), none⟩,
               ⟨some 63, .mv (.t 0), none⟩,
               ⟨some 64, .mv (.t 13), none⟩,
               ⟨some 65, .bin .add (.t 64) (.c (.v false (.int .i64 1))), none⟩,
               ⟨some 66, .mv (.t 0), none⟩,
               ⟨some 67, .mv (.t 13), none⟩,
               ⟨some 68, .bin .add (.t 67) (.c (.v false (.int .i64 1))), none⟩,
               ⟨some 69, .iad 1 (.t 66) (.t 68), none⟩,
               ⟨some 70, .ld false 1 (.t 69), none⟩,
               ⟨some 71, .mv (.t 0), none⟩,
               ⟨some 72, .mv (.t 13), none⟩,
               ⟨some 73, .iad 1 (.t 71) (.t 72), none⟩,
               ⟨some 74, .ld false 1 (.t 73), none⟩,
               ⟨some 75, .iad 1 (.t 61) (.t 62), none⟩,
               ⟨none, .st 1 (.t 75) (.t 70), none⟩,
               ⟨some 76, .iad 1 (.t 63) (.t 65), none⟩,
               ⟨none, .st 1 (.t 76) (.t 74), none⟩] (some [])))
            (.reg [0, 10, 13] [] [
              ⟨some 59, .mv (.t 13), none⟩,
              ⟨some 60, .bin .add (.t 59) (.c (.v false (.int .i64 1))), none⟩,
              ⟨some 13, .mv (.t 60), none⟩] none))

def pl410_4 : PC :=
.seq (.seq (.reg [0, 1, 4, 10, 11, 12, 33] [] [
            ⟨some 31, .mv (.t 10), none⟩,
            ⟨some 32, .mv (.t 11), none⟩,
            ⟨some 33, .bin .lss (.t 31) (.t 32), none⟩] none)
          (.cond (.t 33) (.skip)
           (.exit 0)))
         (.blk 1 (.seq (.reg [0, 1, 4, 10, 11, 12] [(39, 12)] [
             ⟨some 34, .mv (.t 10), none⟩,
             ⟨some 35, .mv (.t 11), none⟩,
             ⟨some 36, .bin .add (.t 34) (.t 35), none⟩,
             ⟨some 37, .cvi .u64 (.t 36), none⟩,
             ⟨some 38, .bin .shr (.t 37) (.c (.v false (.int .u64 1))), none⟩,
             ⟨some 39, .cvi .i64 (.t 38), none⟩,
             ⟨some 12, .mv (.t 39), none⟩] none)
           (.seq (.reg [0, 1, 4, 10, 11, 12, 50] [] [
              ⟨some 40, .mv (.t 4), none⟩,
              ⟨some 41, .mv (.t 0), none⟩,
              ⟨some 42, .mv (.t 12), none⟩,
              ⟨some 43, .iad 1 (.t 41) (.t 42), none⟩,
              ⟨some 44, .ld false 1 (.t 43), none⟩,
              ⟨some 45, .mv (.t 0), none⟩,
              ⟨some 46, .mv (.t 1), none⟩,
              ⟨some 47, .iad 1 (.t 45) (.t 46), none⟩,
              ⟨some 48, .ld false 1 (.t 47), none⟩,
              ⟨some 49, .callv (.t 40) [(.t 44), (.t 48)], none⟩,
              ⟨some 50, .bin .lss (.t 49) (.c (.v false (.int .i64 0))), none⟩] (some []))
            (.cond (.t 50) (.reg [0, 1, 4, 10, 11, 12] [] [
               ⟨some 51, .mv (.t 12), none⟩,
               ⟨some 52, .bin .add (.t 51) (.c (.v false (.int .i64 1))), none⟩,
               ⟨some 10, .mv (.t 52), none⟩] none)
             (.reg [0, 1, 4, 10, 11, 12] [] [
               ⟨some 53, .mv (.t 12), none⟩,
               ⟨some 11, .mv (.t 53), none⟩] none)))))

def pb410 : PC :=
.seq (.seq (.reg [0, 1, 2, 3, 4, 28] [] [
    ⟨some 25, .mv (.t 2), none⟩,
    ⟨some 26, .mv (.t 1), none⟩,
    ⟨some 27, .bin .sub (.t 25) (.t 26), none⟩,
    ⟨some 28, .bin .eql (.t 27) (.c (.v false (.int .i64 1))), none⟩] none)
  (.cond (.t 28) (.seq (.reg [0, 1, 3, 4, 10] [] [
      ⟨some 29, .mv (.t 2), none⟩,
      ⟨some 10, .mv (.t 29), none⟩] none)
    (.seq (.reg [0, 1, 4, 10, 11] [] [
       ⟨some 30, .mv (.t 3), none⟩,
       ⟨some 11, .mv (.t 30), none⟩] none)
     (.seq (.blk 0 (.loop pl410_4))
      (.seq (.seq (.reg [0, 10, 13] [] [
          ⟨some 54, .mv (.t 1), none⟩,
          ⟨some 13, .mv (.t 54), none⟩] none)
        (.blk 2 (.loop pl410_3)))
       (.ret)))))
   (.skip)))
 (.seq (.seq (.reg [0, 1, 2, 3, 4, 80] [] [
     ⟨some 77, .mv (.t 3), none⟩,
     ⟨some 78, .mv (.t 2), none⟩,
     ⟨some 79, .bin .sub (.t 77) (.t 78), none⟩,
     ⟨some 80, .bin .eql (.t 79) (.c (.v false (.int .i64 1))), none⟩] none)
   (.cond (.t 80) (.seq (.reg [0, 2, 4, 14] [] [
       ⟨some 81, .mv (.t 1), none⟩,
       ⟨some 14, .mv (.t 81), none⟩] none)
     (.seq (.reg [0, 2, 4, 14, 15] [] [
        ⟨some 82, .mv (.t 2), none⟩,
        ⟨some 15, .mv (.t 82), none⟩] none)
      (.seq (.blk 4 (.loop pl410_2))
       (.seq (.seq (.reg [0, 14, 17] [] [
           ⟨some 107, .mv (.t 2), none⟩,
           ⟨some 17, .mv (.t 107), none⟩] none)
         (.blk 6 (.loop pl410_1)))
        (.ret)))))
    (.skip)))
  (.seq (.reg [0, 1, 2, 3, 4, 18] [(134, 18)] [
     ⟨some 129, .mv (.t 1), none⟩,
     ⟨some 130, .mv (.t 3), none⟩,
     ⟨some 131, .bin .add (.t 129) (.t 130), none⟩,
     ⟨some 132, .cvi .u64 (.t 131), none⟩,
     ⟨some 133, .bin .shr (.t 132) (.c (.v false (.int .u64 1))), none⟩,
     ⟨some 134, .cvi .i64 (.t 133), none⟩,
     ⟨some 18, .mv (.t 134), none⟩] none)
   (.seq (.reg [0, 1, 2, 3, 4, 18, 19] [] [
      ⟨some 135, .mv (.t 18), none⟩,
      ⟨some 136, .mv (.t 2), none⟩,
      ⟨some 137, .bin .add (.t 135) (.t 136), none⟩,
      ⟨some 19, .mv (.t 137), none⟩] none)
    (.seq (.reg [0, 1, 2, 3, 4, 18, 19] [] [
       ⟨some 20, .mv (.c (.v false (.int .i64 0))), none⟩,
       ⟨some 21, .mv (.c (.v false (.int .i64 0))), none⟩] none)
     (.seq (.seq (.reg [0, 1, 2, 3, 4, 18, 19, 140] [] [
         ⟨some 138, .mv (.t 2), none⟩,
         ⟨some 139, .mv (.t 18), none⟩,
         ⟨some 140, .bin .gtr (.t 138) (.t 139), none⟩] none)
       (.cond (.t 140) (.seq (.reg [0, 1, 2, 3, 4, 18, 19, 20] [] [
           ⟨some 141, .mv (.t 19), none⟩,
           ⟨some 142, .mv (.t 3), none⟩,
           ⟨some 143, .bin .sub (.t 141) (.t 142), none⟩,
           ⟨some 20, .mv (.t 143), none⟩] none)
         (.reg [0, 1, 2, 3, 4, 18, 19, 20, 21] [] [
           ⟨some 144, .mv (.t 18), none⟩,
           ⟨some 21, .mv (.t 144), none⟩] none))
        (.seq (.reg [0, 1, 2, 3, 4, 18, 19, 20] [] [
           ⟨some 145, .mv (.t 1), none⟩,
           ⟨some 20, .mv (.t 145), none⟩] none)
         (.reg [0, 1, 2, 3, 4, 18, 19, 20, 21] [] [
           ⟨some 146, .mv (.t 2), none⟩,
           ⟨some 21, .mv (.t 146), none⟩] none))))
      (.seq (.reg [0, 1, 2, 3, 4, 18, 19, 20, 21, 22] [] [
         ⟨some 147, .mv (.t 19), none⟩,
         ⟨some 148, .bin .sub (.t 147) (.c (.v false (.int .i64 1))), none⟩,
         ⟨some 22, .mv (.t 148), none⟩] none)
       (.seq (.blk 8 (.loop pl410_0))
        (.seq (.reg [0, 1, 2, 3, 4, 18, 20, 24] [] [
           ⟨some 175, .mv (.t 19), none⟩,
           ⟨some 176, .mv (.t 20), none⟩,
           ⟨some 177, .bin .sub (.t 175) (.t 176), none⟩,
           ⟨some 24, .mv (.t 177), none⟩] none)
         (.seq (.seq (.reg [0, 1, 2, 3, 4, 18, 20, 24, 185] [] [
             ⟨some 178, .mv (.t 20), none⟩,
             ⟨some 179, .mv (.t 2), none⟩,
             ⟨some 180, .bin .lss (.t 178) (.t 179), none⟩,
             ⟨some 181, .mv (.t 180), none⟩,
             ⟨some 182, .mv (.t 2), some (181, true)⟩,
             ⟨some 183, .mv (.t 24), some (181, true)⟩,
             ⟨some 184, .bin .lss (.t 182) (.t 183), some (181, true)⟩,
             ⟨some 185, .pick (.t 181) (.t 184) (.c (.v false (.bool false))), none⟩] none)
           (.cond (.t 185) (.reg [0, 1, 3, 4, 18, 20, 24] [] [
              ⟨some 186, .mv (.t 0), none⟩,
              ⟨some 187, .mv (.t 20), none⟩,
              ⟨some 188, .mv (.t 2), none⟩,
              ⟨some 189, .mv (.t 24), none⟩,
              ⟨some 190, .mv (.t 4), none⟩,
              ⟨some 191, .call 407 [0] [(.t 186), (.t 187), (.t 188), (.t 189), (.t 190)], none⟩] none)
            (.skip)))
          (.seq (.seq (.reg [0, 1, 3, 4, 18, 20, 24, 199] [] [
              ⟨some 192, .mv (.t 1), none⟩,
              ⟨some 193, .mv (.t 20), none⟩,
              ⟨some 194, .bin .lss (.t 192) (.t 193), none⟩,
              ⟨some 195, .mv (.t 194), none⟩,
              ⟨some 196, .mv (.t 20), some (195, true)⟩,
              ⟨some 197, .mv (.t 18), some (195, true)⟩,
              ⟨some 198, .bin .lss (.t 196) (.t 197), some (195, true)⟩,
              ⟨some 199, .pick (.t 195) (.t 198) (.c (.v false (.bool false))), none⟩] none)
            (.cond (.t 199) (.reg [0, 3, 4, 18, 24] [] [
               ⟨some 200, .mv (.t 0), none⟩,
               ⟨some 201, .mv (.t 1), none⟩,
               ⟨some 202, .mv (.t 20), none⟩,
               ⟨some 203, .mv (.t 18), none⟩,
               ⟨some 204, .mv (.t 4), none⟩,
               ⟨some 205, .call 410 [0] [(.t 200), (.t 201), (.t 202), (.t 203), (.t 204)], none⟩] none)
             (.skip)))
           (.seq (.reg [0, 3, 4, 18, 24, 213] [] [
              ⟨some 206, .mv (.t 18), none⟩,
              ⟨some 207, .mv (.t 24), none⟩,
              ⟨some 208, .bin .lss (.t 206) (.t 207), none⟩,
              ⟨some 209, .mv (.t 208), none⟩,
              ⟨some 210, .mv (.t 24), some (209, true)⟩,
              ⟨some 211, .mv (.t 3), some (209, true)⟩,
              ⟨some 212, .bin .lss (.t 210) (.t 211), some (209, true)⟩,
              ⟨some 213, .pick (.t 209) (.t 212) (.c (.v false (.bool false))), none⟩] none)
            (.cond (.t 213) (.reg [0] [] [
               ⟨some 214, .mv (.t 0), none⟩,
               ⟨some 215, .mv (.t 18), none⟩,
               ⟨some 216, .mv (.t 24), none⟩,
               ⟨some 217, .mv (.t 3), none⟩,
               ⟨some 218, .mv (.t 4), none⟩,
               ⟨some 219, .call 410 [0] [(.t 214), (.t 215), (.t 216), (.t 217), (.t 218)], none⟩] none)
             (.skip)))))))))))))

def pf410 : PF := ⟨[], [0], pb410⟩

end Go.Proofs.Ytbfmbddafpbcpaa.OM
