/- The texts of the functions, as the own machine runs them. -/
import Derived.Test.YtkgibccknlbiaaaOMDef
set_option linter.all false
namespace Go.Proofs.Ytkgibccknlbiaaa.OM
set_option maxRecDepth 100000

-- cmp.Compare[int]
def pb2 : PC :=
.seq (.reg [0, 1] [] [
   ⟨some 4, .mv (.c (.v false (.int .i64 0))), none⟩] none)
 (.seq (.reg [0, 1, 5] [(8, 5)] [
    ⟨some 7, .mv (.t 0), none⟩,
    ⟨some 8, .call 3 [] [(.t 7)], none⟩,
    ⟨some 5, .mv (.t 8), none⟩] none)
  (.seq (.reg [0, 1, 5, 6] [(10, 6)] [
     ⟨some 9, .mv (.t 1), none⟩,
     ⟨some 10, .call 3 [] [(.t 9)], none⟩,
     ⟨some 6, .mv (.t 10), none⟩] none)
   (.seq (.seq (.reg [0, 1, 5, 6, 11] [] [
       ⟨some 11, .mv (.t 5), none⟩] none)
     (.cond (.t 11) (.seq (.seq (.reg [6, 12] [] [
          ⟨some 12, .mv (.t 6), none⟩] none)
        (.cond (.t 12) (.seq (.reg [4] [] [
            ⟨some 4, .mv (.c (.v false (.int .i64 0))), none⟩] none)
          (.ret))
         (.skip)))
       (.seq (.reg [4] [] [
          ⟨some 4, .mv (.c (.v false (.int .i64 (-1)))), none⟩] none)
        (.ret)))
      (.skip)))
    (.seq (.seq (.reg [0, 1, 6, 13] [] [
        ⟨some 13, .mv (.t 6), none⟩] none)
      (.cond (.t 13) (.seq (.reg [4] [] [
          ⟨some 4, .mv (.c (.v false (.int .i64 1))), none⟩] none)
        (.ret))
       (.skip)))
     (.seq (.seq (.reg [0, 1, 16] [] [
         ⟨some 14, .mv (.t 0), none⟩,
         ⟨some 15, .mv (.t 1), none⟩,
         ⟨some 16, .bin .lss (.t 14) (.t 15), none⟩] none)
       (.cond (.t 16) (.seq (.reg [4] [] [
           ⟨some 4, .mv (.c (.v false (.int .i64 (-1)))), none⟩] none)
         (.ret))
        (.skip)))
      (.seq (.seq (.reg [19] [] [
          ⟨some 17, .mv (.t 0), none⟩,
          ⟨some 18, .mv (.t 1), none⟩,
          ⟨some 19, .bin .gtr (.t 17) (.t 18), none⟩] none)
        (.cond (.t 19) (.seq (.reg [4] [] [
            ⟨some 4, .mv (.c (.v false (.int .i64 1))), none⟩] none)
          (.ret))
         (.skip)))
       (.seq (.reg [4] [] [
          ⟨some 4, .mv (.c (.v false (.int .i64 0))), none⟩] none)
        (.ret))))))))

def pf2 : PF := ⟨[.s 4], [], pb2⟩

-- cmp.isNaN[int]
def pb3 : PC :=
.seq (.reg [0] [] [
   ⟨some 2, .mv (.c (.v false (.bool false))), none⟩] none)
 (.seq (.reg [2] [] [
    ⟨some 3, .mv (.t 0), none⟩,
    ⟨some 4, .mv (.t 0), none⟩,
    ⟨some 5, .bin .neq (.t 3) (.t 4), none⟩,
    ⟨some 2, .mv (.t 5), none⟩] none)
  (.ret))

def pf3 : PF := ⟨[.s 2], [], pb3⟩

-- loop.example/g00496/impl.Ahead
def pb5 : PC :=
.seq (.reg [2, 3] [] [
   ⟨some 2, .box 25 (.t 0), none⟩,
   ⟨some 3, .box 25 (.t 1), none⟩,
   ⟨some 4, .mv (.c (.v false (.bool false))), none⟩] none)
 (.seq (.reg [4] [] [
    ⟨some 5, .fad (.t 2) 24, none⟩,
    ⟨some 6, .ld false 1 (.t 5), none⟩,
    ⟨some 7, .bin .neq (.t 6) (.c (.v false (.int .i64 (-1)))), none⟩,
    ⟨some 8, .mv (.t 7), none⟩,
    ⟨some 9, .fad (.t 2) 24, some (8, true)⟩,
    ⟨some 10, .ld false 1 (.t 9), some (8, true)⟩,
    ⟨some 11, .fad (.t 3) 22, some (8, true)⟩,
    ⟨some 12, .ld false 1 (.t 11), some (8, true)⟩,
    ⟨some 13, .bin .lss (.t 10) (.t 12), some (8, true)⟩,
    ⟨some 14, .pick (.t 8) (.t 13) (.c (.v false (.bool false))), none⟩,
    ⟨some 4, .mv (.t 14), none⟩] none)
  (.ret))

def pf5 : PF := ⟨[.s 4], [], pb5⟩

-- loop.example/g00496/impl.CodeName
def pb11 : PC :=
.seq (.reg [0] [] [
   ⟨some 2, .mv (.c (.v false (.str ⟨#[]⟩))), none⟩] none)
 (.seq (.seq (.reg [0, 5] [] [
     ⟨some 3, .mv (.t 0), none⟩,
     ⟨some 4, .call 87 [] [(.t 3), (.c (.v false (.int .i64 0))), (.c (.v false (.int .i64 5)))], none⟩,
     ⟨some 5, .un .not (.t 4), none⟩] none)
   (.cond (.t 5) (.seq (.reg [2] [] [
       ⟨some 2, .mv (.c (.v false (.str ⟨#[]⟩))), none⟩] none)
     (.ret))
    (.skip)))
  (.seq (.reg [2] [(6, 2)] [
     ⟨some 6, .bsl 1 [.str ⟨#[]⟩, .str ⟨#[]⟩, .str ⟨#[]⟩, .str ⟨#[]⟩, .str ⟨#[]⟩, .str ⟨#[]⟩] 6 [(0, (.c (.v false (.str ⟨#[111, 112, 101, 110]⟩)))), (1, (.c (.v false (.str ⟨#[100, 111, 110, 101]⟩)))), (2, (.c (.v false (.str ⟨#[110, 111, 110, 101]⟩)))), (3, (.c (.v false (.str ⟨#[102, 117, 108, 108]⟩)))), (4, (.c (.v false (.str ⟨#[102, 111, 114, 109]⟩)))), (5, (.c (.v false (.str ⟨#[108, 111, 115, 116]⟩))))], none⟩,
     ⟨some 7, .mv (.t 0), none⟩,
     ⟨some 8, .iad 1 (.t 6) (.t 7), none⟩,
     ⟨some 9, .ld false 1 (.t 8), none⟩,
     ⟨some 2, .mv (.t 9), none⟩] none)
   (.ret)))

def pf11 : PF := ⟨[.s 2], [], pb11⟩

-- loop.example/g00496/impl.DeedOk
def pb14 : PC :=
.seq (.reg [1] [] [
   ⟨some 1, .box 25 (.t 0), none⟩,
   ⟨some 2, .mv (.c (.v false (.bool false))), none⟩] none)
 (.seq (.seq (.reg [1, 18] [] [
     ⟨some 3, .fad (.t 1) 0, none⟩,
     ⟨some 4, .ld false 1 (.t 3), none⟩,
     ⟨some 5, .call 87 [] [(.t 4), (.c (.v false (.int .i64 1))), (.c (.v false (.int .i64 4)))], none⟩,
     ⟨some 6, .un .not (.t 5), none⟩,
     ⟨some 7, .mv (.t 6), none⟩,
     ⟨some 8, .fad (.t 1) 1, some (7, false)⟩,
     ⟨some 9, .ld false 1 (.t 8), some (7, false)⟩,
     ⟨some 10, .call 87 [] [(.t 9), (.c (.v false (.int .i64 0))), (.c (.v false (.int .i64 4)))], some (7, false)⟩,
     ⟨some 11, .un .not (.t 10), some (7, false)⟩,
     ⟨some 12, .pick (.t 7) (.c (.v false (.bool true))) (.t 11), none⟩,
     ⟨some 13, .mv (.t 12), none⟩,
     ⟨some 14, .fad (.t 1) 20, some (13, false)⟩,
     ⟨some 15, .ld false 1 (.t 14), some (13, false)⟩,
     ⟨some 16, .call 87 [] [(.t 15), (.c (.v false (.int .i64 0))), (.c (.v false (.int .i64 5)))], some (13, false)⟩,
     ⟨some 17, .un .not (.t 16), some (13, false)⟩,
     ⟨some 18, .pick (.t 13) (.c (.v false (.bool true))) (.t 17), none⟩] none)
   (.cond (.t 18) (.seq (.reg [2] [] [
       ⟨some 2, .mv (.c (.v false (.bool false))), none⟩] none)
     (.ret))
    (.skip)))
  (.seq (.seq (.reg [1, 43] [] [
      ⟨some 19, .fad (.t 1) 21, none⟩,
      ⟨some 20, .ld false 1 (.t 19), none⟩,
      ⟨some 21, .bin .lss (.t 20) (.c (.v false (.int .i64 0))), none⟩,
      ⟨some 22, .mv (.t 21), none⟩,
      ⟨some 23, .fad (.t 1) 22, some (22, false)⟩,
      ⟨some 24, .ld false 1 (.t 23), some (22, false)⟩,
      ⟨some 25, .bin .lss (.t 24) (.c (.v false (.int .i64 0))), some (22, false)⟩,
      ⟨some 26, .pick (.t 22) (.c (.v false (.bool true))) (.t 25), none⟩,
      ⟨some 27, .mv (.t 26), none⟩,
      ⟨some 28, .fad (.t 1) 3, some (27, false)⟩,
      ⟨some 29, .ld false 1 (.t 28), some (27, false)⟩,
      ⟨some 30, .bin .lss (.t 29) (.c (.v false (.int .i64 (-1)))), some (27, false)⟩,
      ⟨some 31, .pick (.t 27) (.c (.v false (.bool true))) (.t 30), none⟩,
      ⟨some 32, .mv (.t 31), none⟩,
      ⟨some 33, .fad (.t 1) 23, some (32, false)⟩,
      ⟨some 34, .ld false 1 (.t 33), some (32, false)⟩,
      ⟨some 35, .bin .neq (.t 34) (.c (.v false (.int .i64 (-1)))), some (32, false)⟩,
      ⟨some 36, .mv (.t 35), some (32, false)⟩,
      ⟨some 37, .fad (.t 1) 23, some (36, true)⟩,
      ⟨some 38, .ld false 1 (.t 37), some (36, true)⟩,
      ⟨some 39, .fad (.t 1) 22, some (36, true)⟩,
      ⟨some 40, .ld false 1 (.t 39), some (36, true)⟩,
      ⟨some 41, .bin .lss (.t 38) (.t 40), some (36, true)⟩,
      ⟨some 42, .pick (.t 36) (.t 41) (.c (.v false (.bool false))), some (32, false)⟩,
      ⟨some 43, .pick (.t 32) (.c (.v false (.bool true))) (.t 42), none⟩] none)
    (.cond (.t 43) (.seq (.reg [2] [] [
        ⟨some 2, .mv (.c (.v false (.bool false))), none⟩] none)
      (.ret))
     (.skip)))
   (.seq (.reg [2] [] [
      ⟨some 44, .fad (.t 1) 24, none⟩,
      ⟨some 45, .ld false 1 (.t 44), none⟩,
      ⟨some 46, .bin .eql (.t 45) (.c (.v false (.int .i64 (-1)))), none⟩,
      ⟨some 47, .mv (.t 46), none⟩,
      ⟨some 48, .fad (.t 1) 23, some (47, false)⟩,
      ⟨some 49, .ld false 1 (.t 48), some (47, false)⟩,
      ⟨some 50, .bin .neq (.t 49) (.c (.v false (.int .i64 (-1)))), some (47, false)⟩,
      ⟨some 51, .mv (.t 50), some (47, false)⟩,
      ⟨some 52, .fad (.t 1) 24, some (51, true)⟩,
      ⟨some 53, .ld false 1 (.t 52), some (51, true)⟩,
      ⟨some 54, .fad (.t 1) 23, some (51, true)⟩,
      ⟨some 55, .ld false 1 (.t 54), some (51, true)⟩,
      ⟨some 56, .bin .geq (.t 53) (.t 55), some (51, true)⟩,
      ⟨some 57, .pick (.t 51) (.t 56) (.c (.v false (.bool false))), some (47, false)⟩,
      ⟨some 58, .pick (.t 47) (.c (.v false (.bool true))) (.t 57), none⟩,
      ⟨some 2, .mv (.t 58), none⟩] none)
    (.ret))))

def pf14 : PF := ⟨[.s 2], [], pb14⟩

-- loop.example/g00496/impl.Order
def pl36_0 : PC :=
.seq (.reg [1, 3, 7, 8, 9, 10] [] [
         ⟨some 10, .bin .lss (.t 9) (.t 8), none⟩] none)
       (.seq (.cond (.t 10) (.skip)
         (.exit 0))
        (.seq (.blk 1 (.seq (.reg [1, 3, 4, 5, 7, 8, 9] [] [
             ⟨some 11, .mv (.t 9), none⟩,
             ⟨some 12, .iad 25 (.t 7) (.t 9), none⟩,
             ⟨some 13, .ld true 25 (.t 12), none⟩,
             ⟨some 5, .alloc [(.v false (.int .i64 0)), (.v false (.int .i64 0)), (.nl 3), (.v false (.int .i64 0)), (.v false (.int .i64 0)), (.v false (.int .i64 0)), (.v false (.int .i64 0)), (.v false (.int .i64 0)), (.v false (.int .i64 0)), (.v false (.int .i64 0)), (.v false (.str ⟨#[]⟩)), (.nl 7), (.v false (.int .i64 0)), (.nl 1), (.nl 2), (.v false (.int .i64 0)), (.v false (.bool false)), (.v false (.int .i64 0)), (.v false (.int .i64 0)), (.v false (.str ⟨#[]⟩)), (.v false (.int .i64 0)), (.v false (.int .i64 0)), (.v false (.int .i64 0)), (.v false (.int .i64 0)), (.v false (.int .i64 0))], none⟩,
             ⟨some 4, .mv (.t 11), none⟩,
             ⟨none, .st 25 (.t 5) (.t 13), none⟩] none)
           (.seq (.reg [1, 3, 4, 7, 8, 9, 16] [] [
              ⟨some 14, .fad (.t 5) 23, none⟩,
              ⟨some 15, .ld false 1 (.t 14), none⟩,
              ⟨some 16, .bin .neq (.t 15) (.c (.v false (.int .i64 (-1)))), none⟩] none)
            (.cond (.t 16) (.reg [1, 3, 7, 8, 9] [(20, 3)] [
               ⟨some 17, .mv (.t 3), none⟩,
               ⟨some 18, .mv (.t 4), none⟩,
               ⟨some 19, .bsl 1 [.int .i64 0] 1 [(0, (.t 18))], none⟩,
               ⟨some 20, .app 1 8 (.t 17) (.t 19), none⟩,
               ⟨some 3, .mv (.t 20), none⟩] none)
             (.skip)))))
         (.reg [1, 3, 7, 8, 9] [] [
           ⟨some 21, .bin .add (.t 9) (.c (.v false (.int .i64 1))), none⟩,
           ⟨some 9, .mv (.t 21), none⟩] none)))

def pb36 : PC :=
.seq (.reg [1] [] [
   ⟨some 1, .box 1 (.t 0), none⟩,
   ⟨some 2, .mv (.c (.nl 1)), none⟩] none)
 (.seq (.reg [1, 3] [(6, 3)] [
    ⟨some 6, .bsl 1 [] 0 [], none⟩,
    ⟨some 3, .mv (.t 6), none⟩] none)
  (.seq (.seq (.reg [1, 3, 7, 8, 9] [] [
      ⟨some 7, .ld false 1 (.t 1), none⟩,
      ⟨some 8, .len (.t 7), none⟩,
      ⟨some 9, .mv (.c (.v false (.int .i64 0))), none⟩] none)
    (.blk 0 (.loop pl36_0)))
   (.seq (.reg [3] [] [
      ⟨some 22, .mv (.t 3), none⟩,
      ⟨some 23, .mkf 37 (.t 1), none⟩,
      ⟨some 24, .call 405 [0] [(.t 22), (.t 23)], none⟩] none)
    (.seq (.reg [2, 3] [] [
       ⟨some 25, .mv (.t 3), none⟩,
       ⟨some 2, .mv (.t 25), none⟩] none)
     (.ret)))))

def pf36 : PF := ⟨[.s 2], [], pb36⟩

-- loop.example/g00496/impl.Order$1
def pb37 : PC :=
.seq (.reg [0, 1, 2] [] [
   ⟨some 5, .mv (.c (.v false (.int .i64 0))), none⟩] none)
 (.seq (.reg [5] [(16, 5)] [
    ⟨some 6, .ld false 1 (.t 2), none⟩,
    ⟨some 7, .mv (.t 0), none⟩,
    ⟨some 8, .iad 25 (.t 6) (.t 7), none⟩,
    ⟨some 9, .fad (.t 8) 23, none⟩,
    ⟨some 10, .ld false 1 (.t 9), none⟩,
    ⟨some 11, .ld false 1 (.t 2), none⟩,
    ⟨some 12, .mv (.t 1), none⟩,
    ⟨some 13, .iad 25 (.t 11) (.t 12), none⟩,
    ⟨some 14, .fad (.t 13) 23, none⟩,
    ⟨some 15, .ld false 1 (.t 14), none⟩,
    ⟨some 16, .call 2 [] [(.t 10), (.t 15)], none⟩,
    ⟨some 5, .mv (.t 16), none⟩] (some []))
  (.ret))

def pf37 : PF := ⟨[.s 5], [], pb37⟩

-- loop.example/g00496/impl.PutOf
def pl40_0 : PC :=
.seq (.reg [1, 7, 8, 9, 10] [] [
        ⟨some 10, .bin .lss (.t 9) (.t 8), none⟩] none)
      (.seq (.cond (.t 10) (.skip)
        (.exit 0))
       (.seq (.blk 1 (.seq (.reg [1, 5, 6, 7, 8, 9] [] [
            ⟨some 11, .mv (.t 9), none⟩,
            ⟨some 12, .iad 25 (.t 7) (.t 9), none⟩,
            ⟨some 13, .ld true 25 (.t 12), none⟩,
            ⟨some 6, .alloc [(.v false (.int .i64 0)), (.v false (.int .i64 0)), (.nl 3), (.v false (.int .i64 0)), (.v false (.int .i64 0)), (.v false (.int .i64 0)), (.v false (.int .i64 0)), (.v false (.int .i64 0)), (.v false (.int .i64 0)), (.v false (.int .i64 0)), (.v false (.str ⟨#[]⟩)), (.nl 7), (.v false (.int .i64 0)), (.nl 1), (.nl 2), (.v false (.int .i64 0)), (.v false (.bool false)), (.v false (.int .i64 0)), (.v false (.int .i64 0)), (.v false (.str ⟨#[]⟩)), (.v false (.int .i64 0)), (.v false (.int .i64 0)), (.v false (.int .i64 0)), (.v false (.int .i64 0)), (.v false (.int .i64 0))], none⟩,
            ⟨some 5, .mv (.t 11), none⟩,
            ⟨none, .st 25 (.t 6) (.t 13), none⟩] none)
          (.seq (.reg [1, 5, 7, 8, 9, 26] [] [
             ⟨some 14, .mv (.t 1), none⟩,
             ⟨some 15, .bin .geq (.t 14) (.c (.v false (.int .i64 0))), none⟩,
             ⟨some 16, .mv (.t 15), none⟩,
             ⟨some 17, .fad (.t 6) 0, some (16, true)⟩,
             ⟨some 18, .ld false 1 (.t 17), some (16, true)⟩,
             ⟨some 19, .bin .eql (.t 18) (.c (.v false (.int .i64 1))), some (16, true)⟩,
             ⟨some 20, .pick (.t 16) (.t 19) (.c (.v false (.bool false))), none⟩,
             ⟨some 21, .mv (.t 20), none⟩,
             ⟨some 22, .fad (.t 6) 3, some (21, true)⟩,
             ⟨some 23, .ld false 1 (.t 22), some (21, true)⟩,
             ⟨some 24, .mv (.t 1), some (21, true)⟩,
             ⟨some 25, .bin .eql (.t 23) (.t 24), some (21, true)⟩,
             ⟨some 26, .pick (.t 21) (.t 25) (.c (.v false (.bool false))), none⟩] none)
           (.cond (.t 26) (.seq (.reg [4] [] [
               ⟨some 27, .mv (.t 5), none⟩,
               ⟨some 4, .mv (.t 27), none⟩] none)
             (.ret))
            (.skip)))))
        (.reg [1, 7, 8, 9] [] [
          ⟨some 28, .bin .add (.t 9) (.c (.v false (.int .i64 1))), none⟩,
          ⟨some 9, .mv (.t 28), none⟩] none)))

def pb40 : PC :=
.seq (.reg [0, 1] [] [
   ⟨some 4, .mv (.c (.v false (.int .i64 0))), none⟩] none)
 (.seq (.seq (.reg [1, 7, 8, 9] [] [
     ⟨some 7, .mv (.t 0), none⟩,
     ⟨some 8, .len (.t 7), none⟩,
     ⟨some 9, .mv (.c (.v false (.int .i64 0))), none⟩] none)
   (.blk 0 (.loop pl40_0)))
  (.seq (.reg [4] [] [
     ⟨some 4, .mv (.c (.v false (.int .i64 (-1)))), none⟩] none)
   (.ret)))

def pf40 : PF := ⟨[.s 4], [], pb40⟩

-- loop.example/g00496/impl.SameDeed
def pb46 : PC :=
.seq (.reg [2, 3] [] [
   ⟨some 2, .box 25 (.t 0), none⟩,
   ⟨some 3, .box 25 (.t 1), none⟩,
   ⟨some 4, .mv (.c (.v false (.bool false))), none⟩] none)
 (.seq (.reg [4, 36, 43] [(22, 4)] [
    ⟨some 5, .fad (.t 2) 0, none⟩,
    ⟨some 6, .ld false 1 (.t 5), none⟩,
    ⟨some 7, .fad (.t 3) 0, none⟩,
    ⟨some 8, .ld false 1 (.t 7), none⟩,
    ⟨some 9, .bin .eql (.t 6) (.t 8), none⟩,
    ⟨some 10, .mv (.t 9), none⟩,
    ⟨some 11, .fad (.t 2) 1, some (10, true)⟩,
    ⟨some 12, .ld false 1 (.t 11), some (10, true)⟩,
    ⟨some 13, .fad (.t 3) 1, some (10, true)⟩,
    ⟨some 14, .ld false 1 (.t 13), some (10, true)⟩,
    ⟨some 15, .bin .eql (.t 12) (.t 14), some (10, true)⟩,
    ⟨some 16, .pick (.t 10) (.t 15) (.c (.v false (.bool false))), none⟩,
    ⟨some 17, .mv (.t 16), none⟩,
    ⟨some 18, .fad (.t 2) 2, some (17, true)⟩,
    ⟨some 19, .ld false 1 (.t 18), some (17, true)⟩,
    ⟨some 20, .fad (.t 3) 2, some (17, true)⟩,
    ⟨some 21, .ld false 1 (.t 20), some (17, true)⟩,
    ⟨some 22, .call 52 [] [(.t 19), (.t 21)], some (17, true)⟩,
    ⟨some 23, .pick (.t 17) (.t 22) (.c (.v false (.bool false))), none⟩,
    ⟨some 24, .mv (.t 23), none⟩,
    ⟨some 25, .fad (.t 2) 3, some (24, true)⟩,
    ⟨some 26, .ld false 1 (.t 25), some (24, true)⟩,
    ⟨some 27, .fad (.t 3) 3, some (24, true)⟩,
    ⟨some 28, .ld false 1 (.t 27), some (24, true)⟩,
    ⟨some 29, .bin .eql (.t 26) (.t 28), some (24, true)⟩,
    ⟨some 30, .pick (.t 24) (.t 29) (.c (.v false (.bool false))), none⟩,
    ⟨some 31, .mv (.t 30), none⟩,
    ⟨some 32, .fad (.t 2) 4, some (31, true)⟩,
    ⟨some 33, .ld true 10 (.t 32), some (31, true)⟩,
    ⟨some 34, .fad (.t 3) 4, some (31, true)⟩,
    ⟨some 35, .ld true 10 (.t 34), some (31, true)⟩,
    ⟨some 36, .call 86 [] [(.t 33), (.t 35)], some (31, true)⟩,
    ⟨some 37, .pick (.t 31) (.t 36) (.c (.v false (.bool false))), none⟩,
    ⟨some 38, .mv (.t 37), none⟩,
    ⟨some 39, .fad (.t 2) 14, some (38, true)⟩,
    ⟨some 40, .ld true 6 (.t 39), some (38, true)⟩,
    ⟨some 41, .fad (.t 3) 14, some (38, true)⟩,
    ⟨some 42, .ld true 6 (.t 41), some (38, true)⟩,
    ⟨some 43, .call 49 [] [(.t 40), (.t 42)], some (38, true)⟩,
    ⟨some 44, .pick (.t 38) (.t 43) (.c (.v false (.bool false))), none⟩,
    ⟨some 45, .mv (.t 44), none⟩,
    ⟨some 46, .fad (.t 2) 20, some (45, true)⟩,
    ⟨some 47, .ld false 1 (.t 46), some (45, true)⟩,
    ⟨some 48, .fad (.t 3) 20, some (45, true)⟩,
    ⟨some 49, .ld false 1 (.t 48), some (45, true)⟩,
    ⟨some 50, .bin .eql (.t 47) (.t 49), some (45, true)⟩,
    ⟨some 51, .pick (.t 45) (.t 50) (.c (.v false (.bool false))), none⟩,
    ⟨some 52, .mv (.t 51), none⟩,
    ⟨some 53, .fad (.t 2) 21, some (52, true)⟩,
    ⟨some 54, .ld false 1 (.t 53), some (52, true)⟩,
    ⟨some 55, .fad (.t 3) 21, some (52, true)⟩,
    ⟨some 56, .ld false 1 (.t 55), some (52, true)⟩,
    ⟨some 57, .bin .eql (.t 54) (.t 56), some (52, true)⟩,
    ⟨some 58, .pick (.t 52) (.t 57) (.c (.v false (.bool false))), none⟩,
    ⟨some 59, .mv (.t 58), none⟩,
    ⟨some 60, .fad (.t 2) 22, some (59, true)⟩,
    ⟨some 61, .ld false 1 (.t 60), some (59, true)⟩,
    ⟨some 62, .fad (.t 3) 22, some (59, true)⟩,
    ⟨some 63, .ld false 1 (.t 62), some (59, true)⟩,
    ⟨some 64, .bin .eql (.t 61) (.t 63), some (59, true)⟩,
    ⟨some 65, .pick (.t 59) (.t 64) (.c (.v false (.bool false))), none⟩,
    ⟨some 66, .mv (.t 65), none⟩,
    ⟨some 67, .fad (.t 2) 23, some (66, true)⟩,
    ⟨some 68, .ld false 1 (.t 67), some (66, true)⟩,
    ⟨some 69, .fad (.t 3) 23, some (66, true)⟩,
    ⟨some 70, .ld false 1 (.t 69), some (66, true)⟩,
    ⟨some 71, .bin .eql (.t 68) (.t 70), some (66, true)⟩,
    ⟨some 72, .pick (.t 66) (.t 71) (.c (.v false (.bool false))), none⟩,
    ⟨some 73, .mv (.t 72), none⟩,
    ⟨some 74, .fad (.t 2) 24, some (73, true)⟩,
    ⟨some 75, .ld false 1 (.t 74), some (73, true)⟩,
    ⟨some 76, .fad (.t 3) 24, some (73, true)⟩,
    ⟨some 77, .ld false 1 (.t 76), some (73, true)⟩,
    ⟨some 78, .bin .eql (.t 75) (.t 77), some (73, true)⟩,
    ⟨some 79, .pick (.t 73) (.t 78) (.c (.v false (.bool false))), none⟩,
    ⟨some 4, .mv (.t 79), none⟩] none)
  (.ret))

def pf46 : PF := ⟨[.s 4], [], pb46⟩

-- loop.example/g00496/impl.SameResult
def pb49 : PC :=
.seq (.reg [2, 3] [] [
   ⟨some 2, .box 6 (.t 0), none⟩,
   ⟨some 3, .box 6 (.t 1), none⟩,
   ⟨some 4, .mv (.c (.v false (.bool false))), none⟩] none)
 (.seq (.reg [4] [(9, 4)] [
    ⟨some 5, .fad (.t 2) 0, none⟩,
    ⟨some 6, .ld false 1 (.t 5), none⟩,
    ⟨some 7, .fad (.t 3) 0, none⟩,
    ⟨some 8, .ld false 1 (.t 7), none⟩,
    ⟨some 9, .call 51 [] [(.t 6), (.t 8)], none⟩,
    ⟨some 10, .mv (.t 9), none⟩,
    ⟨some 11, .fad (.t 2) 1, some (10, true)⟩,
    ⟨some 12, .ld false 1 (.t 11), some (10, true)⟩,
    ⟨some 13, .fad (.t 3) 1, some (10, true)⟩,
    ⟨some 14, .ld false 1 (.t 13), some (10, true)⟩,
    ⟨some 15, .bin .eql (.t 12) (.t 14), some (10, true)⟩,
    ⟨some 16, .pick (.t 10) (.t 15) (.c (.v false (.bool false))), none⟩,
    ⟨some 17, .mv (.t 16), none⟩,
    ⟨some 18, .fad (.t 2) 2, some (17, true)⟩,
    ⟨some 19, .ld false 1 (.t 18), some (17, true)⟩,
    ⟨some 20, .fad (.t 3) 2, some (17, true)⟩,
    ⟨some 21, .ld false 1 (.t 20), some (17, true)⟩,
    ⟨some 22, .eqb false (.t 19) (.t 21), some (17, true)⟩,
    ⟨some 23, .pick (.t 17) (.t 22) (.c (.v false (.bool false))), none⟩,
    ⟨some 24, .mv (.t 23), none⟩,
    ⟨some 25, .fad (.t 2) 3, some (24, true)⟩,
    ⟨some 26, .ld true 3 (.t 25), some (24, true)⟩,
    ⟨some 27, .fad (.t 3) 3, some (24, true)⟩,
    ⟨some 28, .ld true 3 (.t 27), some (24, true)⟩,
    ⟨some 29, .eqs false [0, 0, 2] (.t 26) (.t 28), some (24, true)⟩,
    ⟨some 30, .pick (.t 24) (.t 29) (.c (.v false (.bool false))), none⟩,
    ⟨some 4, .mv (.t 30), none⟩] none)
  (.ret))

def pf49 : PF := ⟨[.s 4], [], pb49⟩

-- loop.example/g00496/impl.SameRow
def pb50 : PC :=
.seq (.reg [2, 3] [] [
   ⟨some 2, .box 2 (.t 0), none⟩,
   ⟨some 3, .box 2 (.t 1), none⟩,
   ⟨some 4, .mv (.c (.v false (.bool false))), none⟩] none)
 (.seq (.reg [4] [(15, 4)] [
    ⟨some 5, .fad (.t 2) 0, none⟩,
    ⟨some 6, .ld false 1 (.t 5), none⟩,
    ⟨some 7, .fad (.t 3) 0, none⟩,
    ⟨some 8, .ld false 1 (.t 7), none⟩,
    ⟨some 9, .bin .eql (.t 6) (.t 8), none⟩,
    ⟨some 10, .mv (.t 9), none⟩,
    ⟨some 11, .fad (.t 2) 1, some (10, true)⟩,
    ⟨some 12, .ld false 1 (.t 11), some (10, true)⟩,
    ⟨some 13, .fad (.t 3) 1, some (10, true)⟩,
    ⟨some 14, .ld false 1 (.t 13), some (10, true)⟩,
    ⟨some 15, .call 52 [] [(.t 12), (.t 14)], some (10, true)⟩,
    ⟨some 16, .pick (.t 10) (.t 15) (.c (.v false (.bool false))), none⟩,
    ⟨some 4, .mv (.t 16), none⟩] none)
  (.ret))

def pf50 : PF := ⟨[.s 4], [], pb50⟩

-- loop.example/g00496/impl.SameRows
def pl51_0 : PC :=
.seq (.reg [0, 1, 12, 13, 14] [] [
         ⟨some 14, .bin .lss (.t 13) (.t 12), none⟩] none)
       (.seq (.cond (.t 14) (.skip)
         (.exit 0))
        (.seq (.blk 1 (.seq (.reg [0, 1, 5, 12, 13] [] [
             ⟨some 15, .mv (.t 13), none⟩,
             ⟨some 5, .mv (.t 15), none⟩] none)
           (.seq (.reg [0, 1, 12, 13, 25] [] [
              ⟨some 16, .mv (.t 0), none⟩,
              ⟨some 17, .mv (.t 5), none⟩,
              ⟨some 18, .iad 2 (.t 16) (.t 17), none⟩,
              ⟨some 19, .ld true 2 (.t 18), none⟩,
              ⟨some 20, .mv (.t 1), none⟩,
              ⟨some 21, .mv (.t 5), none⟩,
              ⟨some 22, .iad 2 (.t 20) (.t 21), none⟩,
              ⟨some 23, .ld true 2 (.t 22), none⟩,
              ⟨some 24, .call 50 [] [(.t 19), (.t 23)], none⟩,
              ⟨some 25, .un .not (.t 24), none⟩] (some []))
            (.cond (.t 25) (.seq (.reg [4] [] [
                ⟨some 4, .mv (.c (.v false (.bool false))), none⟩] none)
              (.ret))
             (.skip)))))
         (.reg [0, 1, 12, 13] [] [
           ⟨some 26, .bin .add (.t 13) (.c (.v false (.int .i64 1))), none⟩,
           ⟨some 13, .mv (.t 26), none⟩] none)))

def pb51 : PC :=
.seq (.reg [0, 1] [] [
   ⟨some 4, .mv (.c (.v false (.bool false))), none⟩] none)
 (.seq (.seq (.reg [0, 1, 10] [] [
     ⟨some 6, .mv (.t 0), none⟩,
     ⟨some 7, .len (.t 6), none⟩,
     ⟨some 8, .mv (.t 1), none⟩,
     ⟨some 9, .len (.t 8), none⟩,
     ⟨some 10, .bin .neq (.t 7) (.t 9), none⟩] none)
   (.cond (.t 10) (.seq (.reg [4] [] [
       ⟨some 4, .mv (.c (.v false (.bool false))), none⟩] none)
     (.ret))
    (.skip)))
  (.seq (.seq (.reg [0, 1, 12, 13] [] [
      ⟨some 11, .mv (.t 0), none⟩,
      ⟨some 12, .len (.t 11), none⟩,
      ⟨some 13, .mv (.c (.v false (.int .i64 0))), none⟩] none)
    (.blk 0 (.loop pl51_0)))
   (.seq (.reg [4] [] [
      ⟨some 4, .mv (.c (.v false (.bool true))), none⟩] none)
    (.ret))))

def pf51 : PF := ⟨[.s 4], [], pb51⟩

-- loop.example/g00496/impl.SameVals
def pb52 : PC :=
.seq (.reg [0, 1] [] [
   ⟨some 4, .mv (.c (.v false (.bool false))), none⟩] none)
 (.seq (.reg [4] [(7, 4)] [
    ⟨some 5, .mv (.t 0), none⟩,
    ⟨some 6, .mv (.t 1), none⟩,
    ⟨some 7, .call 404 [] [(.t 5), (.t 6)], none⟩,
    ⟨some 4, .mv (.t 7), none⟩] none)
  (.ret))

def pf52 : PF := ⟨[.s 4], [], pb52⟩

-- loop.example/g00496/impl.sameInts
def pl84_0 : PC :=
.seq (.reg [0, 1, 12, 13, 14] [] [
         ⟨some 14, .bin .lss (.t 13) (.t 12), none⟩] none)
       (.seq (.cond (.t 14) (.skip)
         (.exit 0))
        (.seq (.blk 1 (.seq (.reg [0, 1, 5, 12, 13] [] [
             ⟨some 15, .mv (.t 13), none⟩,
             ⟨some 5, .mv (.t 15), none⟩] none)
           (.seq (.reg [0, 1, 12, 13, 24] [] [
              ⟨some 16, .mv (.t 0), none⟩,
              ⟨some 17, .mv (.t 5), none⟩,
              ⟨some 18, .iad 1 (.t 16) (.t 17), none⟩,
              ⟨some 19, .ld false 1 (.t 18), none⟩,
              ⟨some 20, .mv (.t 1), none⟩,
              ⟨some 21, .mv (.t 5), none⟩,
              ⟨some 22, .iad 1 (.t 20) (.t 21), none⟩,
              ⟨some 23, .ld false 1 (.t 22), none⟩,
              ⟨some 24, .bin .neq (.t 19) (.t 23), none⟩] (some []))
            (.cond (.t 24) (.seq (.reg [4] [] [
                ⟨some 4, .mv (.c (.v false (.bool false))), none⟩] none)
              (.ret))
             (.skip)))))
         (.reg [0, 1, 12, 13] [] [
           ⟨some 25, .bin .add (.t 13) (.c (.v false (.int .i64 1))), none⟩,
           ⟨some 13, .mv (.t 25), none⟩] none)))

def pb84 : PC :=
.seq (.reg [0, 1] [] [
   ⟨some 4, .mv (.c (.v false (.bool false))), none⟩] none)
 (.seq (.seq (.reg [0, 1, 10] [] [
     ⟨some 6, .mv (.t 0), none⟩,
     ⟨some 7, .len (.t 6), none⟩,
     ⟨some 8, .mv (.t 1), none⟩,
     ⟨some 9, .len (.t 8), none⟩,
     ⟨some 10, .bin .neq (.t 7) (.t 9), none⟩] none)
   (.cond (.t 10) (.seq (.reg [4] [] [
       ⟨some 4, .mv (.c (.v false (.bool false))), none⟩] none)
     (.ret))
    (.skip)))
  (.seq (.seq (.reg [0, 1, 12, 13] [] [
      ⟨some 11, .mv (.t 0), none⟩,
      ⟨some 12, .len (.t 11), none⟩,
      ⟨some 13, .mv (.c (.v false (.int .i64 0))), none⟩] none)
    (.blk 0 (.loop pl84_0)))
   (.seq (.reg [4] [] [
      ⟨some 4, .mv (.c (.v false (.bool true))), none⟩] none)
    (.ret))))

def pf84 : PF := ⟨[.s 4], [], pb84⟩

-- loop.example/g00496/impl.samePred
def pl85_0 : PC :=
.seq (.reg [2, 3, 43, 44, 45] [] [
         ⟨some 45, .bin .lss (.t 44) (.t 43), none⟩] none)
       (.seq (.cond (.t 45) (.skip)
         (.exit 0))
        (.seq (.blk 1 (.seq (.reg [2, 3, 5, 43, 44] [] [
             ⟨some 46, .mv (.t 44), none⟩,
             ⟨some 5, .mv (.t 46), none⟩] none)
           (.seq (.reg [2, 3, 43, 44, 58] [] [
              ⟨some 47, .fad (.t 2) 6, none⟩,
              ⟨some 48, .ld false 1 (.t 47), none⟩,
              ⟨some 49, .mv (.t 5), none⟩,
              ⟨some 50, .iad 7 (.t 48) (.t 49), none⟩,
              ⟨some 51, .ld true 7 (.t 50), none⟩,
              ⟨some 52, .fad (.t 3) 6, none⟩,
              ⟨some 53, .ld false 1 (.t 52), none⟩,
              ⟨some 54, .mv (.t 5), none⟩,
              ⟨some 55, .iad 7 (.t 53) (.t 54), none⟩,
              ⟨some 56, .ld true 7 (.t 55), none⟩,
              ⟨some 57, .call 85 [] [(.t 51), (.t 56)], none⟩,
              ⟨some 58, .un .not (.t 57), none⟩] (some []))
            (.cond (.t 58) (.seq (.reg [4] [] [
                ⟨some 4, .mv (.c (.v false (.bool false))), none⟩] none)
              (.ret))
             (.skip)))))
         (.reg [2, 3, 43, 44] [] [
           ⟨some 59, .bin .add (.t 44) (.c (.v false (.int .i64 1))), none⟩,
           ⟨some 44, .mv (.t 59), none⟩] none)))

def pb85 : PC :=
.seq (.reg [2, 3] [] [
   ⟨some 2, .box 7 (.t 0), none⟩,
   ⟨some 3, .box 7 (.t 1), none⟩,
   ⟨some 4, .mv (.c (.v false (.bool false))), none⟩] none)
 (.seq (.seq (.reg [2, 3, 40] [] [
     ⟨some 6, .fad (.t 2) 0, none⟩,
     ⟨some 7, .ld false 1 (.t 6), none⟩,
     ⟨some 8, .fad (.t 3) 0, none⟩,
     ⟨some 9, .ld false 1 (.t 8), none⟩,
     ⟨some 10, .bin .neq (.t 7) (.t 9), none⟩,
     ⟨some 11, .mv (.t 10), none⟩,
     ⟨some 12, .fad (.t 2) 1, some (11, false)⟩,
     ⟨some 13, .ld false 1 (.t 12), some (11, false)⟩,
     ⟨some 14, .fad (.t 3) 1, some (11, false)⟩,
     ⟨some 15, .ld false 1 (.t 14), some (11, false)⟩,
     ⟨some 16, .bin .neq (.t 13) (.t 15), some (11, false)⟩,
     ⟨some 17, .pick (.t 11) (.c (.v false (.bool true))) (.t 16), none⟩,
     ⟨some 18, .mv (.t 17), none⟩,
     ⟨some 19, .fad (.t 2) 2, some (18, false)⟩,
     ⟨some 20, .ld false 1 (.t 19), some (18, false)⟩,
     ⟨some 21, .fad (.t 3) 2, some (18, false)⟩,
     ⟨some 22, .ld false 1 (.t 21), some (18, false)⟩,
     ⟨some 23, .bin .neq (.t 20) (.t 22), some (18, false)⟩,
     ⟨some 24, .pick (.t 18) (.c (.v false (.bool true))) (.t 23), none⟩,
     ⟨some 25, .mv (.t 24), none⟩,
     ⟨some 26, .fad (.t 2) 3, some (25, false)⟩,
     ⟨some 27, .ld true 3 (.t 26), some (25, false)⟩,
     ⟨some 28, .fad (.t 3) 3, some (25, false)⟩,
     ⟨some 29, .ld true 3 (.t 28), some (25, false)⟩,
     ⟨some 30, .eqs true [0, 0, 2] (.t 27) (.t 29), some (25, false)⟩,
     ⟨some 31, .pick (.t 25) (.c (.v false (.bool true))) (.t 30), none⟩,
     ⟨some 32, .mv (.t 31), none⟩,
     ⟨some 33, .fad (.t 2) 6, some (32, false)⟩,
     ⟨some 34, .ld false 1 (.t 33), some (32, false)⟩,
     ⟨some 35, .len (.t 34), some (32, false)⟩,
     ⟨some 36, .fad (.t 3) 6, some (32, false)⟩,
     ⟨some 37, .ld false 1 (.t 36), some (32, false)⟩,
     ⟨some 38, .len (.t 37), some (32, false)⟩,
     ⟨some 39, .bin .neq (.t 35) (.t 38), some (32, false)⟩,
     ⟨some 40, .pick (.t 32) (.c (.v false (.bool true))) (.t 39), none⟩] none)
   (.cond (.t 40) (.seq (.reg [4] [] [
       ⟨some 4, .mv (.c (.v false (.bool false))), none⟩] none)
     (.ret))
    (.skip)))
  (.seq (.seq (.reg [2, 3, 43, 44] [] [
      ⟨some 41, .fad (.t 2) 6, none⟩,
      ⟨some 42, .ld false 1 (.t 41), none⟩,
      ⟨some 43, .len (.t 42), none⟩,
      ⟨some 44, .mv (.c (.v false (.int .i64 0))), none⟩] none)
    (.blk 0 (.loop pl85_0)))
   (.seq (.reg [4] [] [
      ⟨some 4, .mv (.c (.v false (.bool true))), none⟩] none)
    (.ret))))

def pf85 : PF := ⟨[.s 4], [], pb85⟩

-- loop.example/g00496/impl.sameQuery
def pb86 : PC :=
.seq (.reg [2, 3] [] [
   ⟨some 2, .box 10 (.t 0), none⟩,
   ⟨some 3, .box 10 (.t 1), none⟩,
   ⟨some 4, .mv (.c (.v false (.bool false))), none⟩] none)
 (.seq (.reg [4, 29] [(15, 4)] [
    ⟨some 5, .fad (.t 2) 0, none⟩,
    ⟨some 6, .ld false 1 (.t 5), none⟩,
    ⟨some 7, .fad (.t 3) 0, none⟩,
    ⟨some 8, .ld false 1 (.t 7), none⟩,
    ⟨some 9, .bin .eql (.t 6) (.t 8), none⟩,
    ⟨some 10, .mv (.t 9), none⟩,
    ⟨some 11, .fad (.t 2) 1, some (10, true)⟩,
    ⟨some 12, .ld true 7 (.t 11), some (10, true)⟩,
    ⟨some 13, .fad (.t 3) 1, some (10, true)⟩,
    ⟨some 14, .ld true 7 (.t 13), some (10, true)⟩,
    ⟨some 15, .call 85 [] [(.t 12), (.t 14)], some (10, true)⟩,
    ⟨some 16, .pick (.t 10) (.t 15) (.c (.v false (.bool false))), none⟩,
    ⟨some 17, .mv (.t 16), none⟩,
    ⟨some 18, .fad (.t 2) 8, some (17, true)⟩,
    ⟨some 19, .ld false 1 (.t 18), some (17, true)⟩,
    ⟨some 20, .fad (.t 3) 8, some (17, true)⟩,
    ⟨some 21, .ld false 1 (.t 20), some (17, true)⟩,
    ⟨some 22, .bin .eql (.t 19) (.t 21), some (17, true)⟩,
    ⟨some 23, .pick (.t 17) (.t 22) (.c (.v false (.bool false))), none⟩,
    ⟨some 24, .mv (.t 23), none⟩,
    ⟨some 25, .fad (.t 2) 9, some (24, true)⟩,
    ⟨some 26, .ld false 1 (.t 25), some (24, true)⟩,
    ⟨some 27, .fad (.t 3) 9, some (24, true)⟩,
    ⟨some 28, .ld false 1 (.t 27), some (24, true)⟩,
    ⟨some 29, .call 84 [] [(.t 26), (.t 28)], some (24, true)⟩,
    ⟨some 30, .pick (.t 24) (.t 29) (.c (.v false (.bool false))), none⟩,
    ⟨some 4, .mv (.t 30), none⟩] none)
  (.ret))

def pf86 : PF := ⟨[.s 4], [], pb86⟩

-- loop.example/g00496/impl.within
def pb87 : PC :=
.seq (.reg [0, 1, 2] [] [
   ⟨some 6, .mv (.c (.v false (.bool false))), none⟩] none)
 (.seq (.reg [6] [] [
    ⟨some 7, .mv (.t 0), none⟩,
    ⟨some 8, .mv (.t 1), none⟩,
    ⟨some 9, .bin .geq (.t 7) (.t 8), none⟩,
    ⟨some 10, .mv (.t 9), none⟩,
    ⟨some 11, .mv (.t 0), some (10, true)⟩,
    ⟨some 12, .mv (.t 2), some (10, true)⟩,
    ⟨some 13, .bin .leq (.t 11) (.t 12), some (10, true)⟩,
    ⟨some 14, .pick (.t 10) (.t 13) (.c (.v false (.bool false))), none⟩,
    ⟨some 6, .mv (.t 14), none⟩] none)
  (.ret))

def pf87 : PF := ⟨[.s 6], [], pb87⟩

-- loop.example/g00496/laws.FnDeeds
def pl89_0 : PC :=
.seq (.seq (.reg [3, 4, 5, 10, 12, 85] [] [
                 ⟨some 82, .mv (.t 12), none⟩,
                 ⟨some 83, .mv (.t 10), none⟩,
                 ⟨some 84, .len (.t 83), none⟩,
                 ⟨some 85, .bin .lss (.t 82) (.t 84), none⟩] none)
               (.cond (.t 85) (.skip)
                (.exit 0)))
              (.seq (.blk 1 (.seq (.reg [3, 4, 5, 10, 12, 152] [] [
                   ⟨some 88, .mv (.t 3), none⟩,
                   ⟨some 89, .mv (.t 10), none⟩,
                   ⟨some 90, .mv (.t 12), none⟩,
                   ⟨some 91, .iad 1 (.t 89) (.t 90), none⟩,
                   ⟨some 92, .ld false 1 (.t 91), none⟩,
                   ⟨some 93, .iad 25 (.t 88) (.t 92), none⟩,
                   ⟨some 94, .fad (.t 93) 23, none⟩,
                   ⟨some 95, .ld false 1 (.t 94), none⟩,
                   ⟨some 96, .bin .eql (.t 95) (.c (.v false (.int .i64 (-1)))), none⟩,
                   ⟨some 97, .mv (.t 96), none⟩,
                   ⟨some 98, .mv (.t 12), some (97, false)⟩,
                   ⟨some 99, .bin .gtr (.t 98) (.c (.v false (.int .i64 0))), some (97, false)⟩,
                   ⟨some 100, .mv (.t 99), some (97, false)⟩,
                   ⟨some 101, .mv (.t 3), some (100, true)⟩,
                   ⟨some 102, .mv (.t 10), some (100, true)⟩,
                   ⟨some 103, .mv (.t 12), some (100, true)⟩,
                   ⟨some 104, .bin .sub (.t 103) (.c (.v false (.int .i64 1))), some (100, true)⟩,
                   ⟨some 105, .iad 1 (.t 102) (.t 104), some (100, true)⟩,
                   ⟨some 106, .ld false 1 (.t 105), some (100, true)⟩,
                   ⟨some 107, .iad 25 (.t 101) (.t 106), some (100, true)⟩,
                   ⟨some 108, .fad (.t 107) 23, some (100, true)⟩,
                   ⟨some 109, .ld false 1 (.t 108), some (100, true)⟩,
                   ⟨some 110, .mv (.t 3), some (100, true)⟩,
                   ⟨some 111, .mv (.t 10), some (100, true)⟩,
                   ⟨some 112, .mv (.t 12), some (100, true)⟩,
                   ⟨some 113, .iad 1 (.t 111) (.t 112), some (100, true)⟩,
                   ⟨some 114, .ld false 1 (.t 113), some (100, true)⟩,
                   ⟨some 115, .iad 25 (.t 110) (.t 114), some (100, true)⟩,
                   ⟨some 116, .fad (.t 115) 23, some (100, true)⟩,
                   ⟨some 117, .ld false 1 (.t 116), some (100, true)⟩,
                   ⟨some 118, .bin .gtr (.t 109) (.t 117), some (100, true)⟩,
                   ⟨some 119, .mv (.t 118), some (100, true)⟩,
                   ⟨some 120, .mv (.t 3), some (119, false)⟩,
                   ⟨some 121, .mv (.t 10), some (119, false)⟩,
                   ⟨some 122, .mv (.t 12), some (119, false)⟩,
                   ⟨some 123, .bin .sub (.t 122) (.c (.v false (.int .i64 1))), some (119, false)⟩,
                   ⟨some 124, .iad 1 (.t 121) (.t 123), some (119, false)⟩,
                   ⟨some 125, .ld false 1 (.t 124), some (119, false)⟩,
                   ⟨some 126, .iad 25 (.t 120) (.t 125), some (119, false)⟩,
                   ⟨some 127, .fad (.t 126) 23, some (119, false)⟩,
                   ⟨some 128, .ld false 1 (.t 127), some (119, false)⟩,
                   ⟨some 129, .mv (.t 3), some (119, false)⟩,
                   ⟨some 130, .mv (.t 10), some (119, false)⟩,
                   ⟨some 131, .mv (.t 12), some (119, false)⟩,
                   ⟨some 132, .iad 1 (.t 130) (.t 131), some (119, false)⟩,
                   ⟨some 133, .ld false 1 (.t 132), some (119, false)⟩,
                   ⟨some 134, .iad 25 (.t 129) (.t 133), some (119, false)⟩,
                   ⟨some 135, .fad (.t 134) 23, some (119, false)⟩,
                   ⟨some 136, .ld false 1 (.t 135), some (119, false)⟩,
                   ⟨some 137, .bin .eql (.t 128) (.t 136), some (119, false)⟩,
                   ⟨some 138, .mv (.t 137), some (119, false)⟩,
                   ⟨some 139, .mv (.t 10), some (138, true)⟩,
                   ⟨some 140, .mv (.t 12), some (138, true)⟩,
                   ⟨some 141, .bin .sub (.t 140) (.c (.v false (.int .i64 1))), some (138, true)⟩,
                   ⟨some 142, .iad 1 (.t 139) (.t 141), some (138, true)⟩,
                   ⟨some 143, .ld false 1 (.t 142), some (138, true)⟩,
                   ⟨some 144, .mv (.t 10), some (138, true)⟩,
                   ⟨some 145, .mv (.t 12), some (138, true)⟩,
                   ⟨some 146, .iad 1 (.t 144) (.t 145), some (138, true)⟩,
                   ⟨some 147, .ld false 1 (.t 146), some (138, true)⟩,
                   ⟨some 148, .bin .geq (.t 143) (.t 147), some (138, true)⟩,
                   ⟨some 149, .pick (.t 138) (.t 148) (.c (.v false (.bool false))), some (119, false)⟩,
                   ⟨some 150, .pick (.t 119) (.c (.v false (.bool true))) (.t 149), some (100, true)⟩,
                   ⟨some 151, .pick (.t 100) (.t 150) (.c (.v false (.bool false))), some (97, false)⟩,
                   ⟨some 152, .pick (.t 97) (.c (.v false (.bool true))) (.t 151), none⟩] (some []))
                 (.cond (.t 152) (.seq (.reg [2] [] [
                     ⟨some 2, .mv (.c (.v false (.bool false))), none⟩] none)
                   (.ret))
                  (.skip))))
               (.reg [3, 4, 5, 10, 12] [] [
                 ⟨some 86, .mv (.t 12), none⟩,
                 ⟨some 87, .bin .add (.t 86) (.c (.v false (.int .i64 1))), none⟩,
                 ⟨some 12, .mv (.t 87), none⟩] none))

def pb89 : PC :=
.seq (.reg [0] [] [
   ⟨some 2, .mv (.c (.v false (.bool false))), none⟩] none)
 (.seq (.seq (.reg [0, 14] [] [
     ⟨some 13, .mv (.t 0), none⟩,
     ⟨some 14, .call 141 [] [(.t 13)], none⟩] none)
   (.cond (.t 14) (.seq (.reg [2] [] [
       ⟨some 2, .mv (.c (.v false (.bool true))), none⟩] none)
     (.ret))
    (.skip)))
  (.seq (.reg [0, 3] [(16, 3)] [
     ⟨some 15, .mv (.t 0), none⟩,
     ⟨some 16, .call 282 [] [(.t 15)], none⟩,
     ⟨some 3, .mv (.t 16), none⟩] none)
   (.seq (.reg [0, 3, 4, 5] [] [
      ⟨some 18, .mv (.t 0), none⟩,
      ⟨some 19, .call 273 [] [(.t 18)], none⟩,
      ⟨some 17, .mv (.t 19), none⟩,
      ⟨some 20, .ext (.t 17) 0, none⟩,
      ⟨some 21, .ext (.t 17) 1, none⟩,
      ⟨some 4, .alloc [(.v false (.int .i64 0)), (.v false (.int .i64 0)), (.nl 3), (.v false (.int .i64 0)), (.v false (.int .i64 0)), (.v false (.int .i64 0)), (.v false (.int .i64 0)), (.v false (.int .i64 0)), (.v false (.int .i64 0)), (.v false (.int .i64 0)), (.v false (.str ⟨#[]⟩)), (.nl 7), (.v false (.int .i64 0)), (.nl 1), (.nl 2), (.v false (.int .i64 0)), (.v false (.bool false)), (.v false (.int .i64 0)), (.v false (.int .i64 0)), (.v false (.str ⟨#[]⟩)), (.v false (.int .i64 0)), (.v false (.int .i64 0)), (.v false (.int .i64 0)), (.v false (.int .i64 0)), (.v false (.int .i64 0))], none⟩,
      ⟨some 5, .alloc [(.v false (.int .i64 0)), (.v false (.int .i64 0)), (.nl 3), (.v false (.int .i64 0)), (.v false (.int .i64 0)), (.v false (.int .i64 0)), (.v false (.int .i64 0)), (.v false (.int .i64 0)), (.v false (.int .i64 0)), (.v false (.int .i64 0)), (.v false (.str ⟨#[]⟩)), (.nl 7), (.v false (.int .i64 0)), (.nl 1), (.nl 2), (.v false (.int .i64 0)), (.v false (.bool false)), (.v false (.int .i64 0)), (.v false (.int .i64 0)), (.v false (.str ⟨#[]⟩)), (.v false (.int .i64 0)), (.v false (.int .i64 0)), (.v false (.int .i64 0)), (.v false (.int .i64 0)), (.v false (.int .i64 0))], none⟩,
      ⟨none, .st 25 (.t 4) (.t 20), none⟩,
      ⟨none, .st 25 (.t 5) (.t 21), none⟩] none)
    (.seq (.reg [0, 3, 4, 5, 6, 7] [] [
       ⟨some 23, .mv (.t 0), none⟩,
       ⟨some 24, .call 289 [] [(.t 23)], none⟩,
       ⟨some 22, .mv (.t 24), none⟩,
       ⟨some 25, .ext (.t 22) 0, none⟩,
       ⟨some 26, .ext (.t 22) 1, none⟩,
       ⟨some 6, .alloc [(.v false (.int .i64 0)), (.v false (.int .i64 0)), (.nl 3), (.v false (.int .i64 0)), (.v false (.int .i64 0)), (.v false (.int .i64 0)), (.v false (.int .i64 0)), (.v false (.int .i64 0)), (.v false (.int .i64 0)), (.v false (.int .i64 0)), (.v false (.str ⟨#[]⟩)), (.nl 7), (.v false (.int .i64 0)), (.nl 1), (.nl 2), (.v false (.int .i64 0)), (.v false (.bool false)), (.v false (.int .i64 0)), (.v false (.int .i64 0)), (.v false (.str ⟨#[]⟩)), (.v false (.int .i64 0)), (.v false (.int .i64 0)), (.v false (.int .i64 0)), (.v false (.int .i64 0)), (.v false (.int .i64 0))], none⟩,
       ⟨some 7, .alloc [(.v false (.int .i64 0)), (.v false (.int .i64 0)), (.nl 3), (.v false (.int .i64 0)), (.v false (.int .i64 0)), (.v false (.int .i64 0)), (.v false (.int .i64 0)), (.v false (.int .i64 0)), (.v false (.int .i64 0)), (.v false (.int .i64 0)), (.v false (.str ⟨#[]⟩)), (.nl 7), (.v false (.int .i64 0)), (.nl 1), (.nl 2), (.v false (.int .i64 0)), (.v false (.bool false)), (.v false (.int .i64 0)), (.v false (.int .i64 0)), (.v false (.str ⟨#[]⟩)), (.v false (.int .i64 0)), (.v false (.int .i64 0)), (.v false (.int .i64 0)), (.v false (.int .i64 0)), (.v false (.int .i64 0))], none⟩,
       ⟨none, .st 25 (.t 6) (.t 25), none⟩,
       ⟨none, .st 25 (.t 7) (.t 26), none⟩] none)
     (.seq (.reg [0, 3, 4, 5, 6, 7, 8, 9] [(29, 8)] [
        ⟨some 28, .mv (.t 0), none⟩,
        ⟨some 29, .call 284 [] [(.t 28)], none⟩,
        ⟨some 27, .mv (.t 29), none⟩,
        ⟨some 30, .ext (.t 27) 0, none⟩,
        ⟨some 31, .ext (.t 27) 1, none⟩,
        ⟨some 8, .mv (.t 30), none⟩,
        ⟨some 9, .mv (.t 31), none⟩] none)
      (.seq (.reg [0, 3, 4, 5, 6, 7, 8, 9, 10] [(33, 10)] [
         ⟨some 32, .mv (.t 3), none⟩,
         ⟨some 33, .call 36 [] [(.t 32)], none⟩,
         ⟨some 10, .mv (.t 33), none⟩] none)
       (.seq (.reg [3, 4, 5, 6, 7, 8, 9, 10, 11] [(35, 11)] [
          ⟨some 34, .mv (.t 0), none⟩,
          ⟨some 35, .call 276 [] [(.t 34)], none⟩,
          ⟨some 11, .mv (.t 35), none⟩] none)
        (.seq (.seq (.reg [3, 4, 5, 10, 81] [] [
            ⟨some 36, .mv (.t 10), none⟩,
            ⟨some 37, .mv (.t 3), none⟩,
            ⟨some 38, .call 317 [] [(.t 37)], none⟩,
            ⟨some 39, .call 203 [] [(.t 36), (.t 38)], none⟩,
            ⟨some 40, .un .not (.t 39), none⟩,
            ⟨some 41, .mv (.t 40), none⟩,
            ⟨some 42, .ld true 25 (.t 4), some (41, false)⟩,
            ⟨some 43, .ld true 25 (.t 5), some (41, false)⟩,
            ⟨some 44, .call 5 [] [(.t 42), (.t 43)], some (41, false)⟩,
            ⟨some 45, .ld true 25 (.t 4), some (41, false)⟩,
            ⟨some 46, .ld true 25 (.t 5), some (41, false)⟩,
            ⟨some 47, .call 261 [] [(.t 45), (.t 46)], some (41, false)⟩,
            ⟨some 48, .eqb true (.t 44) (.t 47), some (41, false)⟩,
            ⟨some 49, .pick (.t 41) (.c (.v false (.bool true))) (.t 48), none⟩,
            ⟨some 50, .mv (.t 49), none⟩,
            ⟨some 51, .ld true 25 (.t 6), some (50, false)⟩,
            ⟨some 52, .ld true 25 (.t 7), some (50, false)⟩,
            ⟨some 53, .call 46 [] [(.t 51), (.t 52)], some (50, false)⟩,
            ⟨some 54, .ld true 25 (.t 6), some (50, false)⟩,
            ⟨some 55, .ld true 25 (.t 7), some (50, false)⟩,
            ⟨some 56, .call 201 [] [(.t 54), (.t 55)], some (50, false)⟩,
            ⟨some 57, .eqb true (.t 53) (.t 56), some (50, false)⟩,
            ⟨some 58, .pick (.t 50) (.c (.v false (.bool true))) (.t 57), none⟩,
            ⟨some 59, .mv (.t 58), none⟩,
            ⟨some 60, .ld true 25 (.t 6), some (59, false)⟩,
            ⟨some 61, .call 14 [] [(.t 60)], some (59, false)⟩,
            ⟨some 62, .ld true 25 (.t 6), some (59, false)⟩,
            ⟨some 63, .call 270 [] [(.t 62)], some (59, false)⟩,
            ⟨some 64, .eqb true (.t 61) (.t 63), some (59, false)⟩,
            ⟨some 65, .pick (.t 59) (.c (.v false (.bool true))) (.t 64), none⟩,
            ⟨some 66, .mv (.t 65), none⟩,
            ⟨some 67, .mv (.t 8), some (66, false)⟩,
            ⟨some 68, .mv (.t 9), some (66, false)⟩,
            ⟨some 69, .call 40 [] [(.t 67), (.t 68)], some (66, false)⟩,
            ⟨some 70, .mv (.t 8), some (66, false)⟩,
            ⟨some 71, .mv (.t 9), some (66, false)⟩,
            ⟨some 72, .call 321 [] [(.t 70), (.t 71)], some (66, false)⟩,
            ⟨some 73, .bin .neq (.t 69) (.t 72), some (66, false)⟩,
            ⟨some 74, .pick (.t 66) (.c (.v false (.bool true))) (.t 73), none⟩,
            ⟨some 75, .mv (.t 74), none⟩,
            ⟨some 76, .mv (.t 11), some (75, false)⟩,
            ⟨some 77, .call 11 [] [(.t 76)], some (75, false)⟩,
            ⟨some 78, .mv (.t 11), some (75, false)⟩,
            ⟨some 79, .call 267 [] [(.t 78)], some (75, false)⟩,
            ⟨some 80, .bin .neq (.t 77) (.t 79), some (75, false)⟩,
            ⟨some 81, .pick (.t 75) (.c (.v false (.bool true))) (.t 80), none⟩] (some [(8, 9), (8, 10), (17, 18), (17, 19), (25, 26)]))
          (.cond (.t 81) (.seq (.reg [2] [] [
              ⟨some 2, .mv (.c (.v false (.bool false))), none⟩] none)
            (.ret))
           (.skip)))
         (.seq (.seq (.reg [3, 4, 5, 10, 12] [] [
             ⟨some 12, .mv (.c (.v false (.int .i64 0))), none⟩] none)
           (.blk 0 (.loop pl89_0)))
          (.seq (.reg [2] [] [
             ⟨some 153, .ld true 25 (.t 4), none⟩,
             ⟨some 154, .call 14 [] [(.t 153)], none⟩,
             ⟨some 155, .un .not (.t 154), none⟩,
             ⟨some 156, .mv (.t 155), none⟩,
             ⟨some 157, .ld true 25 (.t 5), some (156, false)⟩,
             ⟨some 158, .call 14 [] [(.t 157)], some (156, false)⟩,
             ⟨some 159, .un .not (.t 158), some (156, false)⟩,
             ⟨some 160, .pick (.t 156) (.c (.v false (.bool true))) (.t 159), none⟩,
             ⟨some 161, .mv (.t 160), none⟩,
             ⟨some 162, .ld true 25 (.t 4), some (161, false)⟩,
             ⟨some 163, .ld true 25 (.t 5), some (161, false)⟩,
             ⟨some 164, .call 5 [] [(.t 162), (.t 163)], some (161, false)⟩,
             ⟨some 165, .un .not (.t 164), some (161, false)⟩,
             ⟨some 166, .pick (.t 161) (.c (.v false (.bool true))) (.t 165), none⟩,
             ⟨some 167, .mv (.t 166), none⟩,
             ⟨some 168, .ld true 25 (.t 5), some (167, false)⟩,
             ⟨some 169, .ld true 25 (.t 4), some (167, false)⟩,
             ⟨some 170, .call 5 [] [(.t 168), (.t 169)], some (167, false)⟩,
             ⟨some 171, .un .not (.t 170), some (167, false)⟩,
             ⟨some 172, .pick (.t 167) (.c (.v false (.bool true))) (.t 171), none⟩,
             ⟨some 2, .mv (.t 172), none⟩] none)
           (.ret)))))))))))

def pf89 : PF := ⟨[.s 2], [], pb89⟩

-- loop.example/g00496/laws.big
def pb141 : PC :=
.seq (.reg [0] [] [
   ⟨some 2, .mv (.c (.v false (.bool false))), none⟩] none)
 (.seq (.reg [2] [] [
    ⟨some 3, .mv (.t 0), none⟩,
    ⟨some 4, .len (.t 3), none⟩,
    ⟨some 5, .bin .gtr (.t 4) (.c (.v false (.int .i64 1048576))), none⟩,
    ⟨some 2, .mv (.t 5), none⟩] none)
  (.ret))

def pf141 : PF := ⟨[.s 2], [], pb141⟩

-- loop.example/g00496/laws.sameDeed
def pb201 : PC :=
.seq (.reg [2, 3] [] [
   ⟨some 2, .box 25 (.t 0), none⟩,
   ⟨some 3, .box 25 (.t 1), none⟩,
   ⟨some 4, .mv (.c (.v false (.bool false))), none⟩] none)
 (.seq (.reg [4, 36, 43] [(22, 4)] [
    ⟨some 5, .fad (.t 2) 0, none⟩,
    ⟨some 6, .ld false 1 (.t 5), none⟩,
    ⟨some 7, .fad (.t 3) 0, none⟩,
    ⟨some 8, .ld false 1 (.t 7), none⟩,
    ⟨some 9, .bin .eql (.t 6) (.t 8), none⟩,
    ⟨some 10, .mv (.t 9), none⟩,
    ⟨some 11, .fad (.t 2) 1, some (10, true)⟩,
    ⟨some 12, .ld false 1 (.t 11), some (10, true)⟩,
    ⟨some 13, .fad (.t 3) 1, some (10, true)⟩,
    ⟨some 14, .ld false 1 (.t 13), some (10, true)⟩,
    ⟨some 15, .bin .eql (.t 12) (.t 14), some (10, true)⟩,
    ⟨some 16, .pick (.t 10) (.t 15) (.c (.v false (.bool false))), none⟩,
    ⟨some 17, .mv (.t 16), none⟩,
    ⟨some 18, .fad (.t 2) 2, some (17, true)⟩,
    ⟨some 19, .ld false 1 (.t 18), some (17, true)⟩,
    ⟨some 20, .fad (.t 3) 2, some (17, true)⟩,
    ⟨some 21, .ld false 1 (.t 20), some (17, true)⟩,
    ⟨some 22, .call 209 [] [(.t 19), (.t 21)], some (17, true)⟩,
    ⟨some 23, .pick (.t 17) (.t 22) (.c (.v false (.bool false))), none⟩,
    ⟨some 24, .mv (.t 23), none⟩,
    ⟨some 25, .fad (.t 2) 3, some (24, true)⟩,
    ⟨some 26, .ld false 1 (.t 25), some (24, true)⟩,
    ⟨some 27, .fad (.t 3) 3, some (24, true)⟩,
    ⟨some 28, .ld false 1 (.t 27), some (24, true)⟩,
    ⟨some 29, .bin .eql (.t 26) (.t 28), some (24, true)⟩,
    ⟨some 30, .pick (.t 24) (.t 29) (.c (.v false (.bool false))), none⟩,
    ⟨some 31, .mv (.t 30), none⟩,
    ⟨some 32, .fad (.t 2) 4, some (31, true)⟩,
    ⟨some 33, .ld true 10 (.t 32), some (31, true)⟩,
    ⟨some 34, .fad (.t 3) 4, some (31, true)⟩,
    ⟨some 35, .ld true 10 (.t 34), some (31, true)⟩,
    ⟨some 36, .call 205 [] [(.t 33), (.t 35)], some (31, true)⟩,
    ⟨some 37, .pick (.t 31) (.t 36) (.c (.v false (.bool false))), none⟩,
    ⟨some 38, .mv (.t 37), none⟩,
    ⟨some 39, .fad (.t 2) 14, some (38, true)⟩,
    ⟨some 40, .ld true 6 (.t 39), some (38, true)⟩,
    ⟨some 41, .fad (.t 3) 14, some (38, true)⟩,
    ⟨some 42, .ld true 6 (.t 41), some (38, true)⟩,
    ⟨some 43, .call 207 [] [(.t 40), (.t 42)], some (38, true)⟩,
    ⟨some 44, .pick (.t 38) (.t 43) (.c (.v false (.bool false))), none⟩,
    ⟨some 45, .mv (.t 44), none⟩,
    ⟨some 46, .fad (.t 2) 20, some (45, true)⟩,
    ⟨some 47, .ld false 1 (.t 46), some (45, true)⟩,
    ⟨some 48, .fad (.t 3) 20, some (45, true)⟩,
    ⟨some 49, .ld false 1 (.t 48), some (45, true)⟩,
    ⟨some 50, .bin .eql (.t 47) (.t 49), some (45, true)⟩,
    ⟨some 51, .pick (.t 45) (.t 50) (.c (.v false (.bool false))), none⟩,
    ⟨some 52, .mv (.t 51), none⟩,
    ⟨some 53, .fad (.t 2) 21, some (52, true)⟩,
    ⟨some 54, .ld false 1 (.t 53), some (52, true)⟩,
    ⟨some 55, .fad (.t 3) 21, some (52, true)⟩,
    ⟨some 56, .ld false 1 (.t 55), some (52, true)⟩,
    ⟨some 57, .bin .eql (.t 54) (.t 56), some (52, true)⟩,
    ⟨some 58, .pick (.t 52) (.t 57) (.c (.v false (.bool false))), none⟩,
    ⟨some 59, .mv (.t 58), none⟩,
    ⟨some 60, .fad (.t 2) 22, some (59, true)⟩,
    ⟨some 61, .ld false 1 (.t 60), some (59, true)⟩,
    ⟨some 62, .fad (.t 3) 22, some (59, true)⟩,
    ⟨some 63, .ld false 1 (.t 62), some (59, true)⟩,
    ⟨some 64, .bin .eql (.t 61) (.t 63), some (59, true)⟩,
    ⟨some 65, .pick (.t 59) (.t 64) (.c (.v false (.bool false))), none⟩,
    ⟨some 66, .mv (.t 65), none⟩,
    ⟨some 67, .fad (.t 2) 23, some (66, true)⟩,
    ⟨some 68, .ld false 1 (.t 67), some (66, true)⟩,
    ⟨some 69, .fad (.t 3) 23, some (66, true)⟩,
    ⟨some 70, .ld false 1 (.t 69), some (66, true)⟩,
    ⟨some 71, .bin .eql (.t 68) (.t 70), some (66, true)⟩,
    ⟨some 72, .pick (.t 66) (.t 71) (.c (.v false (.bool false))), none⟩,
    ⟨some 73, .mv (.t 72), none⟩,
    ⟨some 74, .fad (.t 2) 24, some (73, true)⟩,
    ⟨some 75, .ld false 1 (.t 74), some (73, true)⟩,
    ⟨some 76, .fad (.t 3) 24, some (73, true)⟩,
    ⟨some 77, .ld false 1 (.t 76), some (73, true)⟩,
    ⟨some 78, .bin .eql (.t 75) (.t 77), some (73, true)⟩,
    ⟨some 79, .pick (.t 73) (.t 78) (.c (.v false (.bool false))), none⟩,
    ⟨some 4, .mv (.t 79), none⟩] none)
  (.ret))

def pf201 : PF := ⟨[.s 4], [], pb201⟩

-- loop.example/g00496/laws.sameInts
def pl203_0 : PC :=
.seq (.seq (.reg [0, 1, 5, 14] [] [
          ⟨some 11, .mv (.t 5), none⟩,
          ⟨some 12, .mv (.t 0), none⟩,
          ⟨some 13, .len (.t 12), none⟩,
          ⟨some 14, .bin .lss (.t 11) (.t 13), none⟩] none)
        (.cond (.t 14) (.skip)
         (.exit 0)))
       (.seq (.blk 1 (.seq (.reg [0, 1, 5, 25] [] [
            ⟨some 17, .mv (.t 0), none⟩,
            ⟨some 18, .mv (.t 5), none⟩,
            ⟨some 19, .iad 1 (.t 17) (.t 18), none⟩,
            ⟨some 20, .ld false 1 (.t 19), none⟩,
            ⟨some 21, .mv (.t 1), none⟩,
            ⟨some 22, .mv (.t 5), none⟩,
            ⟨some 23, .iad 1 (.t 21) (.t 22), none⟩,
            ⟨some 24, .ld false 1 (.t 23), none⟩,
            ⟨some 25, .bin .neq (.t 20) (.t 24), none⟩] (some []))
          (.cond (.t 25) (.seq (.reg [4] [] [
              ⟨some 4, .mv (.c (.v false (.bool false))), none⟩] none)
            (.ret))
           (.skip))))
        (.reg [0, 1, 5] [] [
          ⟨some 15, .mv (.t 5), none⟩,
          ⟨some 16, .bin .add (.t 15) (.c (.v false (.int .i64 1))), none⟩,
          ⟨some 5, .mv (.t 16), none⟩] none))

def pb203 : PC :=
.seq (.reg [0, 1] [] [
   ⟨some 4, .mv (.c (.v false (.bool false))), none⟩] none)
 (.seq (.seq (.reg [0, 1, 10] [] [
     ⟨some 6, .mv (.t 0), none⟩,
     ⟨some 7, .len (.t 6), none⟩,
     ⟨some 8, .mv (.t 1), none⟩,
     ⟨some 9, .len (.t 8), none⟩,
     ⟨some 10, .bin .neq (.t 7) (.t 9), none⟩] none)
   (.cond (.t 10) (.seq (.reg [4] [] [
       ⟨some 4, .mv (.c (.v false (.bool false))), none⟩] none)
     (.ret))
    (.skip)))
  (.seq (.seq (.reg [0, 1, 5] [] [
      ⟨some 5, .mv (.c (.v false (.int .i64 0))), none⟩] none)
    (.blk 0 (.loop pl203_0)))
   (.seq (.reg [4] [] [
      ⟨some 4, .mv (.c (.v false (.bool true))), none⟩] none)
    (.ret))))

def pf203 : PF := ⟨[.s 4], [], pb203⟩

-- loop.example/g00496/laws.samePred
def pl204_0 : PC :=
.seq (.seq (.reg [2, 3, 5, 45] [] [
          ⟨some 41, .mv (.t 5), none⟩,
          ⟨some 42, .fad (.t 2) 6, none⟩,
          ⟨some 43, .ld false 1 (.t 42), none⟩,
          ⟨some 44, .len (.t 43), none⟩,
          ⟨some 45, .bin .lss (.t 41) (.t 44), none⟩] none)
        (.cond (.t 45) (.skip)
         (.exit 0)))
       (.seq (.blk 1 (.seq (.reg [2, 3, 5, 59] [] [
            ⟨some 48, .fad (.t 2) 6, none⟩,
            ⟨some 49, .ld false 1 (.t 48), none⟩,
            ⟨some 50, .mv (.t 5), none⟩,
            ⟨some 51, .iad 7 (.t 49) (.t 50), none⟩,
            ⟨some 52, .ld true 7 (.t 51), none⟩,
            ⟨some 53, .fad (.t 3) 6, none⟩,
            ⟨some 54, .ld false 1 (.t 53), none⟩,
            ⟨some 55, .mv (.t 5), none⟩,
            ⟨some 56, .iad 7 (.t 54) (.t 55), none⟩,
            ⟨some 57, .ld true 7 (.t 56), none⟩,
            ⟨some 58, .call 204 [] [(.t 52), (.t 57)], none⟩,
            ⟨some 59, .un .not (.t 58), none⟩] (some []))
          (.cond (.t 59) (.seq (.reg [4] [] [
              ⟨some 4, .mv (.c (.v false (.bool false))), none⟩] none)
            (.ret))
           (.skip))))
        (.reg [2, 3, 5] [] [
          ⟨some 46, .mv (.t 5), none⟩,
          ⟨some 47, .bin .add (.t 46) (.c (.v false (.int .i64 1))), none⟩,
          ⟨some 5, .mv (.t 47), none⟩] none))

def pb204 : PC :=
.seq (.reg [2, 3] [] [
   ⟨some 2, .box 7 (.t 0), none⟩,
   ⟨some 3, .box 7 (.t 1), none⟩,
   ⟨some 4, .mv (.c (.v false (.bool false))), none⟩] none)
 (.seq (.seq (.reg [2, 3, 40] [] [
     ⟨some 6, .fad (.t 2) 0, none⟩,
     ⟨some 7, .ld false 1 (.t 6), none⟩,
     ⟨some 8, .fad (.t 3) 0, none⟩,
     ⟨some 9, .ld false 1 (.t 8), none⟩,
     ⟨some 10, .bin .neq (.t 7) (.t 9), none⟩,
     ⟨some 11, .mv (.t 10), none⟩,
     ⟨some 12, .fad (.t 2) 1, some (11, false)⟩,
     ⟨some 13, .ld false 1 (.t 12), some (11, false)⟩,
     ⟨some 14, .fad (.t 3) 1, some (11, false)⟩,
     ⟨some 15, .ld false 1 (.t 14), some (11, false)⟩,
     ⟨some 16, .bin .neq (.t 13) (.t 15), some (11, false)⟩,
     ⟨some 17, .pick (.t 11) (.c (.v false (.bool true))) (.t 16), none⟩,
     ⟨some 18, .mv (.t 17), none⟩,
     ⟨some 19, .fad (.t 2) 2, some (18, false)⟩,
     ⟨some 20, .ld false 1 (.t 19), some (18, false)⟩,
     ⟨some 21, .fad (.t 3) 2, some (18, false)⟩,
     ⟨some 22, .ld false 1 (.t 21), some (18, false)⟩,
     ⟨some 23, .bin .neq (.t 20) (.t 22), some (18, false)⟩,
     ⟨some 24, .pick (.t 18) (.c (.v false (.bool true))) (.t 23), none⟩,
     ⟨some 25, .mv (.t 24), none⟩,
     ⟨some 26, .fad (.t 2) 3, some (25, false)⟩,
     ⟨some 27, .ld true 3 (.t 26), some (25, false)⟩,
     ⟨some 28, .fad (.t 3) 3, some (25, false)⟩,
     ⟨some 29, .ld true 3 (.t 28), some (25, false)⟩,
     ⟨some 30, .eqs true [0, 0, 2] (.t 27) (.t 29), some (25, false)⟩,
     ⟨some 31, .pick (.t 25) (.c (.v false (.bool true))) (.t 30), none⟩,
     ⟨some 32, .mv (.t 31), none⟩,
     ⟨some 33, .fad (.t 2) 6, some (32, false)⟩,
     ⟨some 34, .ld false 1 (.t 33), some (32, false)⟩,
     ⟨some 35, .len (.t 34), some (32, false)⟩,
     ⟨some 36, .fad (.t 3) 6, some (32, false)⟩,
     ⟨some 37, .ld false 1 (.t 36), some (32, false)⟩,
     ⟨some 38, .len (.t 37), some (32, false)⟩,
     ⟨some 39, .bin .neq (.t 35) (.t 38), some (32, false)⟩,
     ⟨some 40, .pick (.t 32) (.c (.v false (.bool true))) (.t 39), none⟩] none)
   (.cond (.t 40) (.seq (.reg [4] [] [
       ⟨some 4, .mv (.c (.v false (.bool false))), none⟩] none)
     (.ret))
    (.skip)))
  (.seq (.seq (.reg [2, 3, 5] [] [
      ⟨some 5, .mv (.c (.v false (.int .i64 0))), none⟩] none)
    (.blk 0 (.loop pl204_0)))
   (.seq (.reg [4] [] [
      ⟨some 4, .mv (.c (.v false (.bool true))), none⟩] none)
    (.ret))))

def pf204 : PF := ⟨[.s 4], [], pb204⟩

-- loop.example/g00496/laws.sameQuery
def pb205 : PC :=
.seq (.reg [2, 3] [] [
   ⟨some 2, .box 10 (.t 0), none⟩,
   ⟨some 3, .box 10 (.t 1), none⟩,
   ⟨some 4, .mv (.c (.v false (.bool false))), none⟩] none)
 (.seq (.reg [4, 29] [(22, 4)] [
    ⟨some 5, .fad (.t 2) 0, none⟩,
    ⟨some 6, .ld false 1 (.t 5), none⟩,
    ⟨some 7, .fad (.t 3) 0, none⟩,
    ⟨some 8, .ld false 1 (.t 7), none⟩,
    ⟨some 9, .bin .eql (.t 6) (.t 8), none⟩,
    ⟨some 10, .mv (.t 9), none⟩,
    ⟨some 11, .fad (.t 2) 8, some (10, true)⟩,
    ⟨some 12, .ld false 1 (.t 11), some (10, true)⟩,
    ⟨some 13, .fad (.t 3) 8, some (10, true)⟩,
    ⟨some 14, .ld false 1 (.t 13), some (10, true)⟩,
    ⟨some 15, .bin .eql (.t 12) (.t 14), some (10, true)⟩,
    ⟨some 16, .pick (.t 10) (.t 15) (.c (.v false (.bool false))), none⟩,
    ⟨some 17, .mv (.t 16), none⟩,
    ⟨some 18, .fad (.t 2) 9, some (17, true)⟩,
    ⟨some 19, .ld false 1 (.t 18), some (17, true)⟩,
    ⟨some 20, .fad (.t 3) 9, some (17, true)⟩,
    ⟨some 21, .ld false 1 (.t 20), some (17, true)⟩,
    ⟨some 22, .call 203 [] [(.t 19), (.t 21)], some (17, true)⟩,
    ⟨some 23, .pick (.t 17) (.t 22) (.c (.v false (.bool false))), none⟩,
    ⟨some 24, .mv (.t 23), none⟩,
    ⟨some 25, .fad (.t 2) 1, some (24, true)⟩,
    ⟨some 26, .ld true 7 (.t 25), some (24, true)⟩,
    ⟨some 27, .fad (.t 3) 1, some (24, true)⟩,
    ⟨some 28, .ld true 7 (.t 27), some (24, true)⟩,
    ⟨some 29, .call 204 [] [(.t 26), (.t 28)], some (24, true)⟩,
    ⟨some 30, .pick (.t 24) (.t 29) (.c (.v false (.bool false))), none⟩,
    ⟨some 4, .mv (.t 30), none⟩] none)
  (.ret))

def pf205 : PF := ⟨[.s 4], [], pb205⟩

-- loop.example/g00496/laws.sameResult
def pb207 : PC :=
.seq (.reg [2, 3] [] [
   ⟨some 2, .box 6 (.t 0), none⟩,
   ⟨some 3, .box 6 (.t 1), none⟩,
   ⟨some 4, .mv (.c (.v false (.bool false))), none⟩] none)
 (.seq (.reg [4] [(9, 4)] [
    ⟨some 5, .fad (.t 2) 0, none⟩,
    ⟨some 6, .ld false 1 (.t 5), none⟩,
    ⟨some 7, .fad (.t 3) 0, none⟩,
    ⟨some 8, .ld false 1 (.t 7), none⟩,
    ⟨some 9, .call 208 [] [(.t 6), (.t 8)], none⟩,
    ⟨some 10, .mv (.t 9), none⟩,
    ⟨some 11, .fad (.t 2) 1, some (10, true)⟩,
    ⟨some 12, .ld false 1 (.t 11), some (10, true)⟩,
    ⟨some 13, .fad (.t 3) 1, some (10, true)⟩,
    ⟨some 14, .ld false 1 (.t 13), some (10, true)⟩,
    ⟨some 15, .bin .eql (.t 12) (.t 14), some (10, true)⟩,
    ⟨some 16, .pick (.t 10) (.t 15) (.c (.v false (.bool false))), none⟩,
    ⟨some 17, .mv (.t 16), none⟩,
    ⟨some 18, .fad (.t 2) 2, some (17, true)⟩,
    ⟨some 19, .ld false 1 (.t 18), some (17, true)⟩,
    ⟨some 20, .fad (.t 3) 2, some (17, true)⟩,
    ⟨some 21, .ld false 1 (.t 20), some (17, true)⟩,
    ⟨some 22, .eqb false (.t 19) (.t 21), some (17, true)⟩,
    ⟨some 23, .pick (.t 17) (.t 22) (.c (.v false (.bool false))), none⟩,
    ⟨some 24, .mv (.t 23), none⟩,
    ⟨some 25, .fad (.t 2) 3, some (24, true)⟩,
    ⟨some 26, .ld true 3 (.t 25), some (24, true)⟩,
    ⟨some 27, .fad (.t 3) 3, some (24, true)⟩,
    ⟨some 28, .ld true 3 (.t 27), some (24, true)⟩,
    ⟨some 29, .eqs false [0, 0, 2] (.t 26) (.t 28), some (24, true)⟩,
    ⟨some 30, .pick (.t 24) (.t 29) (.c (.v false (.bool false))), none⟩,
    ⟨some 4, .mv (.t 30), none⟩] none)
  (.ret))

def pf207 : PF := ⟨[.s 4], [], pb207⟩

-- loop.example/g00496/laws.sameRows
def pl208_0 : PC :=
.seq (.seq (.reg [0, 1, 5, 14] [] [
          ⟨some 11, .mv (.t 5), none⟩,
          ⟨some 12, .mv (.t 0), none⟩,
          ⟨some 13, .len (.t 12), none⟩,
          ⟨some 14, .bin .lss (.t 11) (.t 13), none⟩] none)
        (.cond (.t 14) (.skip)
         (.exit 0)))
       (.seq (.blk 1 (.seq (.reg [0, 1, 5, 41] [] [
            ⟨some 17, .mv (.t 0), none⟩,
            ⟨some 18, .mv (.t 5), none⟩,
            ⟨some 19, .iad 2 (.t 17) (.t 18), none⟩,
            ⟨some 20, .fad (.t 19) 0, none⟩,
            ⟨some 21, .ld false 1 (.t 20), none⟩,
            ⟨some 22, .mv (.t 1), none⟩,
            ⟨some 23, .mv (.t 5), none⟩,
            ⟨some 24, .iad 2 (.t 22) (.t 23), none⟩,
            ⟨some 25, .fad (.t 24) 0, none⟩,
            ⟨some 26, .ld false 1 (.t 25), none⟩,
            ⟨some 27, .bin .neq (.t 21) (.t 26), none⟩,
            ⟨some 28, .mv (.t 27), none⟩,
            ⟨some 29, .mv (.t 0), some (28, false)⟩,
            ⟨some 30, .mv (.t 5), some (28, false)⟩,
            ⟨some 31, .iad 2 (.t 29) (.t 30), some (28, false)⟩,
            ⟨some 32, .fad (.t 31) 1, some (28, false)⟩,
            ⟨some 33, .ld false 1 (.t 32), some (28, false)⟩,
            ⟨some 34, .mv (.t 1), some (28, false)⟩,
            ⟨some 35, .mv (.t 5), some (28, false)⟩,
            ⟨some 36, .iad 2 (.t 34) (.t 35), some (28, false)⟩,
            ⟨some 37, .fad (.t 36) 1, some (28, false)⟩,
            ⟨some 38, .ld false 1 (.t 37), some (28, false)⟩,
            ⟨some 39, .call 209 [] [(.t 33), (.t 38)], some (28, false)⟩,
            ⟨some 40, .un .not (.t 39), some (28, false)⟩,
            ⟨some 41, .pick (.t 28) (.c (.v false (.bool true))) (.t 40), none⟩] (some []))
          (.cond (.t 41) (.seq (.reg [4] [] [
              ⟨some 4, .mv (.c (.v false (.bool false))), none⟩] none)
            (.ret))
           (.skip))))
        (.reg [0, 1, 5] [] [
          ⟨some 15, .mv (.t 5), none⟩,
          ⟨some 16, .bin .add (.t 15) (.c (.v false (.int .i64 1))), none⟩,
          ⟨some 5, .mv (.t 16), none⟩] none))

def pb208 : PC :=
.seq (.reg [0, 1] [] [
   ⟨some 4, .mv (.c (.v false (.bool false))), none⟩] none)
 (.seq (.seq (.reg [0, 1, 10] [] [
     ⟨some 6, .mv (.t 0), none⟩,
     ⟨some 7, .len (.t 6), none⟩,
     ⟨some 8, .mv (.t 1), none⟩,
     ⟨some 9, .len (.t 8), none⟩,
     ⟨some 10, .bin .neq (.t 7) (.t 9), none⟩] none)
   (.cond (.t 10) (.seq (.reg [4] [] [
       ⟨some 4, .mv (.c (.v false (.bool false))), none⟩] none)
     (.ret))
    (.skip)))
  (.seq (.seq (.reg [0, 1, 5] [] [
      ⟨some 5, .mv (.c (.v false (.int .i64 0))), none⟩] none)
    (.blk 0 (.loop pl208_0)))
   (.seq (.reg [4] [] [
      ⟨some 4, .mv (.c (.v false (.bool true))), none⟩] none)
    (.ret))))

def pf208 : PF := ⟨[.s 4], [], pb208⟩

-- loop.example/g00496/laws.sameVals
def pl209_0 : PC :=
.seq (.seq (.reg [0, 1, 5, 14] [] [
          ⟨some 11, .mv (.t 5), none⟩,
          ⟨some 12, .mv (.t 0), none⟩,
          ⟨some 13, .len (.t 12), none⟩,
          ⟨some 14, .bin .lss (.t 11) (.t 13), none⟩] none)
        (.cond (.t 14) (.skip)
         (.exit 0)))
       (.seq (.blk 1 (.seq (.reg [0, 1, 5, 25] [] [
            ⟨some 17, .mv (.t 0), none⟩,
            ⟨some 18, .mv (.t 5), none⟩,
            ⟨some 19, .iad 3 (.t 17) (.t 18), none⟩,
            ⟨some 20, .ld true 3 (.t 19), none⟩,
            ⟨some 21, .mv (.t 1), none⟩,
            ⟨some 22, .mv (.t 5), none⟩,
            ⟨some 23, .iad 3 (.t 21) (.t 22), none⟩,
            ⟨some 24, .ld true 3 (.t 23), none⟩,
            ⟨some 25, .eqs true [0, 0, 2] (.t 20) (.t 24), none⟩] (some []))
          (.cond (.t 25) (.seq (.reg [4] [] [
              ⟨some 4, .mv (.c (.v false (.bool false))), none⟩] none)
            (.ret))
           (.skip))))
        (.reg [0, 1, 5] [] [
          ⟨some 15, .mv (.t 5), none⟩,
          ⟨some 16, .bin .add (.t 15) (.c (.v false (.int .i64 1))), none⟩,
          ⟨some 5, .mv (.t 16), none⟩] none))

def pb209 : PC :=
.seq (.reg [0, 1] [] [
   ⟨some 4, .mv (.c (.v false (.bool false))), none⟩] none)
 (.seq (.seq (.reg [0, 1, 10] [] [
     ⟨some 6, .mv (.t 0), none⟩,
     ⟨some 7, .len (.t 6), none⟩,
     ⟨some 8, .mv (.t 1), none⟩,
     ⟨some 9, .len (.t 8), none⟩,
     ⟨some 10, .bin .neq (.t 7) (.t 9), none⟩] none)
   (.cond (.t 10) (.seq (.reg [4] [] [
       ⟨some 4, .mv (.c (.v false (.bool false))), none⟩] none)
     (.ret))
    (.skip)))
  (.seq (.seq (.reg [0, 1, 5] [] [
      ⟨some 5, .mv (.c (.v false (.int .i64 0))), none⟩] none)
    (.blk 0 (.loop pl209_0)))
   (.seq (.reg [4] [] [
      ⟨some 4, .mv (.c (.v false (.bool true))), none⟩] none)
    (.ret))))

def pf209 : PF := ⟨[.s 4], [], pb209⟩

-- loop.example/g00496/spec.Ahead
def pb261 : PC :=
.seq (.reg [2, 3] [] [
   ⟨some 2, .box 25 (.t 0), none⟩,
   ⟨some 3, .box 25 (.t 1), none⟩,
   ⟨some 4, .mv (.c (.v false (.bool false))), none⟩] none)
 (.seq (.reg [4] [] [
    ⟨some 5, .fad (.t 2) 24, none⟩,
    ⟨some 6, .ld false 1 (.t 5), none⟩,
    ⟨some 7, .bin .neq (.t 6) (.c (.v false (.int .i64 (-1)))), none⟩,
    ⟨some 8, .mv (.t 7), none⟩,
    ⟨some 9, .fad (.t 2) 24, some (8, true)⟩,
    ⟨some 10, .ld false 1 (.t 9), some (8, true)⟩,
    ⟨some 11, .fad (.t 3) 22, some (8, true)⟩,
    ⟨some 12, .ld false 1 (.t 11), some (8, true)⟩,
    ⟨some 13, .bin .lss (.t 10) (.t 12), some (8, true)⟩,
    ⟨some 14, .pick (.t 8) (.t 13) (.c (.v false (.bool false))), none⟩,
    ⟨some 4, .mv (.t 14), none⟩] none)
  (.ret))

def pf261 : PF := ⟨[.s 4], [], pb261⟩

-- loop.example/g00496/spec.CodeName
def pb267 : PC :=
.seq (.reg [0] [] [
   ⟨some 2, .mv (.c (.v false (.str ⟨#[]⟩))), none⟩] none)
 (.seq (.reg [0, 3] [(4, 3)] [
    ⟨some 4, .bsl 1 [.str ⟨#[]⟩, .str ⟨#[]⟩, .str ⟨#[]⟩, .str ⟨#[]⟩, .str ⟨#[]⟩, .str ⟨#[]⟩] 6 [(0, (.c (.v false (.str ⟨#[111, 112, 101, 110]⟩)))), (1, (.c (.v false (.str ⟨#[100, 111, 110, 101]⟩)))), (2, (.c (.v false (.str ⟨#[110, 111, 110, 101]⟩)))), (3, (.c (.v false (.str ⟨#[102, 117, 108, 108]⟩)))), (4, (.c (.v false (.str ⟨#[102, 111, 114, 109]⟩)))), (5, (.c (.v false (.str ⟨#[108, 111, 115, 116]⟩))))], none⟩,
    ⟨some 3, .mv (.t 4), none⟩] none)
  (.seq (.seq (.reg [0, 3, 10] [] [
      ⟨some 5, .mv (.t 0), none⟩,
      ⟨some 6, .mv (.t 3), none⟩,
      ⟨some 7, .len (.t 6), none⟩,
      ⟨some 8, .bin .sub (.t 7) (.c (.v false (.int .i64 1))), none⟩,
      ⟨some 9, .call 377 [] [(.t 5), (.c (.v false (.int .i64 0))), (.t 8)], none⟩,
      ⟨some 10, .un .not (.t 9), none⟩] none)
    (.cond (.t 10) (.seq (.reg [2] [] [
        ⟨some 2, .mv (.c (.v false (.str ⟨#[]⟩))), none⟩] none)
      (.ret))
     (.skip)))
   (.seq (.reg [2, 3] [] [
      ⟨some 11, .mv (.t 3), none⟩,
      ⟨some 12, .mv (.t 0), none⟩,
      ⟨some 13, .iad 1 (.t 11) (.t 12), none⟩,
      ⟨some 14, .ld false 1 (.t 13), none⟩,
      ⟨some 2, .mv (.t 14), none⟩] none)
    (.ret))))

def pf267 : PF := ⟨[.s 2], [], pb267⟩

-- loop.example/g00496/spec.ColsOk
def pl268_0 : PC :=
.seq (.seq (.reg [0, 3, 7] [] [
         ⟨some 4, .mv (.t 3), none⟩,
         ⟨some 5, .mv (.t 0), none⟩,
         ⟨some 6, .len (.t 5), none⟩,
         ⟨some 7, .bin .lss (.t 4) (.t 6), none⟩] none)
       (.cond (.t 7) (.skip)
        (.exit 0)))
      (.seq (.blk 1 (.seq (.reg [0, 3, 15] [] [
           ⟨some 10, .mv (.t 0), none⟩,
           ⟨some 11, .mv (.t 3), none⟩,
           ⟨some 12, .iad 1 (.t 10) (.t 11), none⟩,
           ⟨some 13, .ld false 1 (.t 12), none⟩,
           ⟨some 14, .call 377 [] [(.t 13), (.c (.v false (.int .i64 1))), (.c (.v false (.int .i64 2)))], none⟩,
           ⟨some 15, .un .not (.t 14), none⟩] none)
         (.cond (.t 15) (.seq (.reg [2] [] [
             ⟨some 2, .mv (.c (.v false (.bool false))), none⟩] none)
           (.ret))
          (.skip))))
       (.reg [0, 3] [] [
         ⟨some 8, .mv (.t 3), none⟩,
         ⟨some 9, .bin .add (.t 8) (.c (.v false (.int .i64 1))), none⟩,
         ⟨some 3, .mv (.t 9), none⟩] none))

def pb268 : PC :=
.seq (.reg [0] [] [
   ⟨some 2, .mv (.c (.v false (.bool false))), none⟩] none)
 (.seq (.seq (.reg [0, 3] [] [
     ⟨some 3, .mv (.c (.v false (.int .i64 0))), none⟩] none)
   (.blk 0 (.loop pl268_0)))
  (.seq (.reg [2] [(18, 2)] [
     ⟨some 16, .mv (.t 0), none⟩,
     ⟨some 17, .len (.t 16), none⟩,
     ⟨some 18, .call 377 [] [(.t 17), (.c (.v false (.int .i64 1))), (.c (.v false (.int .i64 3)))], none⟩,
     ⟨some 2, .mv (.t 18), none⟩] none)
   (.ret)))

def pf268 : PF := ⟨[.s 2], [], pb268⟩

-- loop.example/g00496/spec.DeedOk
def pb270 : PC :=
.seq (.reg [1] [] [
   ⟨some 1, .box 25 (.t 0), none⟩,
   ⟨some 2, .mv (.c (.v false (.bool false))), none⟩] none)
 (.seq (.seq (.reg [1, 33] [] [
     ⟨some 3, .fad (.t 1) 0, none⟩,
     ⟨some 4, .ld false 1 (.t 3), none⟩,
     ⟨some 5, .call 377 [] [(.t 4), (.c (.v false (.int .i64 1))), (.c (.v false (.int .i64 4)))], none⟩,
     ⟨some 6, .un .not (.t 5), none⟩,
     ⟨some 7, .mv (.t 6), none⟩,
     ⟨some 8, .fad (.t 1) 1, some (7, false)⟩,
     ⟨some 9, .ld false 1 (.t 8), some (7, false)⟩,
     ⟨some 10, .call 377 [] [(.t 9), (.c (.v false (.int .i64 0))), (.c (.v false (.int .i64 4)))], some (7, false)⟩,
     ⟨some 11, .un .not (.t 10), some (7, false)⟩,
     ⟨some 12, .pick (.t 7) (.c (.v false (.bool true))) (.t 11), none⟩,
     ⟨some 13, .mv (.t 12), none⟩,
     ⟨some 14, .fad (.t 1) 20, some (13, false)⟩,
     ⟨some 15, .ld false 1 (.t 14), some (13, false)⟩,
     ⟨some 16, .call 377 [] [(.t 15), (.c (.v false (.int .i64 0))), (.c (.v false (.int .i64 5)))], some (13, false)⟩,
     ⟨some 17, .un .not (.t 16), some (13, false)⟩,
     ⟨some 18, .pick (.t 13) (.c (.v false (.bool true))) (.t 17), none⟩,
     ⟨some 19, .mv (.t 18), none⟩,
     ⟨some 20, .fad (.t 1) 21, some (19, false)⟩,
     ⟨some 21, .ld false 1 (.t 20), some (19, false)⟩,
     ⟨some 22, .bin .lss (.t 21) (.c (.v false (.int .i64 0))), some (19, false)⟩,
     ⟨some 23, .pick (.t 19) (.c (.v false (.bool true))) (.t 22), none⟩,
     ⟨some 24, .mv (.t 23), none⟩,
     ⟨some 25, .fad (.t 1) 22, some (24, false)⟩,
     ⟨some 26, .ld false 1 (.t 25), some (24, false)⟩,
     ⟨some 27, .bin .lss (.t 26) (.c (.v false (.int .i64 0))), some (24, false)⟩,
     ⟨some 28, .pick (.t 24) (.c (.v false (.bool true))) (.t 27), none⟩,
     ⟨some 29, .mv (.t 28), none⟩,
     ⟨some 30, .fad (.t 1) 3, some (29, false)⟩,
     ⟨some 31, .ld false 1 (.t 30), some (29, false)⟩,
     ⟨some 32, .bin .lss (.t 31) (.c (.v false (.int .i64 (-1)))), some (29, false)⟩,
     ⟨some 33, .pick (.t 29) (.c (.v false (.bool true))) (.t 32), none⟩] none)
   (.cond (.t 33) (.seq (.reg [2] [] [
       ⟨some 2, .mv (.c (.v false (.bool false))), none⟩] none)
     (.ret))
    (.skip)))
  (.seq (.seq (.reg [1, 43] [] [
      ⟨some 34, .fad (.t 1) 23, none⟩,
      ⟨some 35, .ld false 1 (.t 34), none⟩,
      ⟨some 36, .bin .neq (.t 35) (.c (.v false (.int .i64 (-1)))), none⟩,
      ⟨some 37, .mv (.t 36), none⟩,
      ⟨some 38, .fad (.t 1) 23, some (37, true)⟩,
      ⟨some 39, .ld false 1 (.t 38), some (37, true)⟩,
      ⟨some 40, .fad (.t 1) 22, some (37, true)⟩,
      ⟨some 41, .ld false 1 (.t 40), some (37, true)⟩,
      ⟨some 42, .bin .lss (.t 39) (.t 41), some (37, true)⟩,
      ⟨some 43, .pick (.t 37) (.t 42) (.c (.v false (.bool false))), none⟩] none)
    (.cond (.t 43) (.seq (.reg [2] [] [
        ⟨some 2, .mv (.c (.v false (.bool false))), none⟩] none)
      (.ret))
     (.skip)))
   (.seq (.reg [2] [] [
      ⟨some 44, .fad (.t 1) 24, none⟩,
      ⟨some 45, .ld false 1 (.t 44), none⟩,
      ⟨some 46, .bin .eql (.t 45) (.c (.v false (.int .i64 (-1)))), none⟩,
      ⟨some 47, .mv (.t 46), none⟩,
      ⟨some 48, .fad (.t 1) 23, some (47, false)⟩,
      ⟨some 49, .ld false 1 (.t 48), some (47, false)⟩,
      ⟨some 50, .bin .neq (.t 49) (.c (.v false (.int .i64 (-1)))), some (47, false)⟩,
      ⟨some 51, .mv (.t 50), some (47, false)⟩,
      ⟨some 52, .fad (.t 1) 24, some (51, true)⟩,
      ⟨some 53, .ld false 1 (.t 52), some (51, true)⟩,
      ⟨some 54, .fad (.t 1) 23, some (51, true)⟩,
      ⟨some 55, .ld false 1 (.t 54), some (51, true)⟩,
      ⟨some 56, .bin .geq (.t 53) (.t 55), some (51, true)⟩,
      ⟨some 57, .pick (.t 51) (.t 56) (.c (.v false (.bool false))), some (47, false)⟩,
      ⟨some 58, .pick (.t 47) (.c (.v false (.bool true))) (.t 57), none⟩,
      ⟨some 2, .mv (.t 58), none⟩] none)
    (.ret))))

def pf270 : PF := ⟨[.s 2], [], pb270⟩

-- loop.example/g00496/spec.DrawAhead
def pb273 : PC :=
.seq (.reg [0, 2, 3] [] [
   ⟨some 2, .alloc [(.v false (.int .i64 0)), (.v false (.int .i64 0)), (.nl 3), (.v false (.int .i64 0)), (.v false (.int .i64 0)), (.v false (.int .i64 0)), (.v false (.int .i64 0)), (.v false (.int .i64 0)), (.v false (.int .i64 0)), (.v false (.int .i64 0)), (.v false (.str ⟨#[]⟩)), (.nl 7), (.v false (.int .i64 0)), (.nl 1), (.nl 2), (.v false (.int .i64 0)), (.v false (.bool false)), (.v false (.int .i64 0)), (.v false (.int .i64 0)), (.v false (.str ⟨#[]⟩)), (.v false (.int .i64 0)), (.v false (.int .i64 0)), (.v false (.int .i64 0)), (.v false (.int .i64 0)), (.v false (.int .i64 0))], none⟩,
   ⟨some 3, .alloc [(.v false (.int .i64 0)), (.v false (.int .i64 0)), (.nl 3), (.v false (.int .i64 0)), (.v false (.int .i64 0)), (.v false (.int .i64 0)), (.v false (.int .i64 0)), (.v false (.int .i64 0)), (.v false (.int .i64 0)), (.v false (.int .i64 0)), (.v false (.str ⟨#[]⟩)), (.nl 7), (.v false (.int .i64 0)), (.nl 1), (.nl 2), (.v false (.int .i64 0)), (.v false (.bool false)), (.v false (.int .i64 0)), (.v false (.int .i64 0)), (.v false (.str ⟨#[]⟩)), (.v false (.int .i64 0)), (.v false (.int .i64 0)), (.v false (.int .i64 0)), (.v false (.int .i64 0)), (.v false (.int .i64 0))], none⟩] none)
 (.seq (.reg [2, 3, 4] [(7, 4)] [
    ⟨some 6, .mv (.t 0), none⟩,
    ⟨some 7, .call 379 [] [(.t 6)], none⟩,
    ⟨some 4, .mv (.t 7), none⟩] none)
  (.seq (.reg [2, 3, 4, 5] [] [
     ⟨some 8, .mv (.t 4), none⟩,
     ⟨some 9, .call 388 [0] [(.t 8)], none⟩,
     ⟨some 5, .alloc [(.v false (.int .i64 0)), (.v false (.int .i64 0)), (.nl 3), (.v false (.int .i64 0)), (.v false (.int .i64 0)), (.v false (.int .i64 0)), (.v false (.int .i64 0)), (.v false (.int .i64 0)), (.v false (.int .i64 0)), (.v false (.int .i64 0)), (.v false (.str ⟨#[]⟩)), (.nl 7), (.v false (.int .i64 0)), (.nl 1), (.nl 2), (.v false (.int .i64 0)), (.v false (.bool false)), (.v false (.int .i64 0)), (.v false (.int .i64 0)), (.v false (.str ⟨#[]⟩)), (.v false (.int .i64 0)), (.v false (.int .i64 0)), (.v false (.int .i64 0)), (.v false (.int .i64 0)), (.v false (.int .i64 0))], none⟩,
     ⟨none, .st 25 (.t 5) (.t 9), none⟩] none)
   (.seq (.reg [2, 3] [] [
      ⟨some 10, .ld true 25 (.t 5), none⟩,
      ⟨some 11, .mv (.t 4), none⟩,
      ⟨some 12, .call 388 [0] [(.t 11)], none⟩,
      ⟨none, .st 25 (.t 2) (.t 10), none⟩,
      ⟨none, .st 25 (.t 3) (.t 12), none⟩] (some [(0, 2)]))
    (.ret))))

def pf273 : PF := ⟨[.b 2 25 true, .b 3 25 true], [], pb273⟩

-- loop.example/g00496/spec.DrawCodeName
def pb276 : PC :=
.seq (.reg [0] [] [
   ⟨some 2, .mv (.c (.v false (.int .i64 0))), none⟩] none)
 (.seq (.reg [3] [(5, 3)] [
    ⟨some 4, .mv (.t 0), none⟩,
    ⟨some 5, .call 379 [] [(.t 4)], none⟩,
    ⟨some 3, .mv (.t 5), none⟩] none)
  (.seq (.reg [2] [] [
     ⟨some 6, .mv (.t 3), none⟩,
     ⟨some 7, .call 375 [0] [(.t 6), (.c (.v false (.int .i64 8)))], none⟩,
     ⟨some 8, .bin .sub (.t 7) (.c (.v false (.int .i64 1))), none⟩,
     ⟨some 2, .mv (.t 8), none⟩] none)
   (.ret)))

def pf276 : PF := ⟨[.s 2], [], pb276⟩

-- loop.example/g00496/spec.DrawOrder
def pb282 : PC :=
.seq (.reg [0] [] [
   ⟨some 2, .mv (.c (.nl 25)), none⟩] none)
 (.seq (.reg [3] [(5, 3)] [
    ⟨some 4, .mv (.t 0), none⟩,
    ⟨some 5, .call 379 [] [(.t 4)], none⟩,
    ⟨some 3, .mv (.t 5), none⟩] none)
  (.seq (.reg [2] [(7, 2)] [
     ⟨some 6, .mv (.t 3), none⟩,
     ⟨some 7, .call 389 [0] [(.t 6)], none⟩,
     ⟨some 2, .mv (.t 7), none⟩] none)
   (.ret)))

def pf282 : PF := ⟨[.s 2], [], pb282⟩

-- loop.example/g00496/spec.DrawPutOf
def pb284 : PC :=
.seq (.reg [0] [] [
   ⟨some 2, .mv (.c (.nl 25)), none⟩,
   ⟨some 3, .mv (.c (.v false (.int .i64 0))), none⟩] none)
 (.seq (.reg [4] [(6, 4)] [
    ⟨some 5, .mv (.t 0), none⟩,
    ⟨some 6, .call 379 [] [(.t 5)], none⟩,
    ⟨some 4, .mv (.t 6), none⟩] none)
  (.seq (.reg [2, 3] [(8, 2)] [
     ⟨some 7, .mv (.t 4), none⟩,
     ⟨some 8, .call 389 [0] [(.t 7)], none⟩,
     ⟨some 9, .mv (.t 4), none⟩,
     ⟨some 10, .call 375 [0] [(.t 9), (.c (.v false (.int .i64 5)))], none⟩,
     ⟨some 11, .bin .sub (.t 10) (.c (.v false (.int .i64 1))), none⟩,
     ⟨some 2, .mv (.t 8), none⟩,
     ⟨some 3, .mv (.t 11), none⟩] none)
   (.ret)))

def pf284 : PF := ⟨[.s 2, .s 3], [], pb284⟩

-- loop.example/g00496/spec.DrawSameDeed
def pb289 : PC :=
.seq (.reg [0, 2, 3] [] [
   ⟨some 2, .alloc [(.v false (.int .i64 0)), (.v false (.int .i64 0)), (.nl 3), (.v false (.int .i64 0)), (.v false (.int .i64 0)), (.v false (.int .i64 0)), (.v false (.int .i64 0)), (.v false (.int .i64 0)), (.v false (.int .i64 0)), (.v false (.int .i64 0)), (.v false (.str ⟨#[]⟩)), (.nl 7), (.v false (.int .i64 0)), (.nl 1), (.nl 2), (.v false (.int .i64 0)), (.v false (.bool false)), (.v false (.int .i64 0)), (.v false (.int .i64 0)), (.v false (.str ⟨#[]⟩)), (.v false (.int .i64 0)), (.v false (.int .i64 0)), (.v false (.int .i64 0)), (.v false (.int .i64 0)), (.v false (.int .i64 0))], none⟩,
   ⟨some 3, .alloc [(.v false (.int .i64 0)), (.v false (.int .i64 0)), (.nl 3), (.v false (.int .i64 0)), (.v false (.int .i64 0)), (.v false (.int .i64 0)), (.v false (.int .i64 0)), (.v false (.int .i64 0)), (.v false (.int .i64 0)), (.v false (.int .i64 0)), (.v false (.str ⟨#[]⟩)), (.nl 7), (.v false (.int .i64 0)), (.nl 1), (.nl 2), (.v false (.int .i64 0)), (.v false (.bool false)), (.v false (.int .i64 0)), (.v false (.int .i64 0)), (.v false (.str ⟨#[]⟩)), (.v false (.int .i64 0)), (.v false (.int .i64 0)), (.v false (.int .i64 0)), (.v false (.int .i64 0)), (.v false (.int .i64 0))], none⟩] none)
 (.seq (.reg [2, 3, 4] [(8, 4)] [
    ⟨some 7, .mv (.t 0), none⟩,
    ⟨some 8, .call 379 [] [(.t 7)], none⟩,
    ⟨some 4, .mv (.t 8), none⟩] none)
  (.seq (.reg [2, 3, 4, 5] [] [
     ⟨some 9, .mv (.t 4), none⟩,
     ⟨some 10, .call 386 [0] [(.t 9)], none⟩,
     ⟨some 5, .alloc [(.v false (.int .i64 0)), (.v false (.int .i64 0)), (.nl 3), (.v false (.int .i64 0)), (.v false (.int .i64 0)), (.v false (.int .i64 0)), (.v false (.int .i64 0)), (.v false (.int .i64 0)), (.v false (.int .i64 0)), (.v false (.int .i64 0)), (.v false (.str ⟨#[]⟩)), (.nl 7), (.v false (.int .i64 0)), (.nl 1), (.nl 2), (.v false (.int .i64 0)), (.v false (.bool false)), (.v false (.int .i64 0)), (.v false (.int .i64 0)), (.v false (.str ⟨#[]⟩)), (.v false (.int .i64 0)), (.v false (.int .i64 0)), (.v false (.int .i64 0)), (.v false (.int .i64 0)), (.v false (.int .i64 0))], none⟩,
     ⟨none, .st 25 (.t 5) (.t 10), none⟩] none)
   (.seq (.reg [2, 3, 4, 5, 6] [] [
      ⟨some 11, .ld true 25 (.t 5), none⟩,
      ⟨some 12, .call 387 [] [(.t 11)], none⟩,
      ⟨some 6, .alloc [(.v false (.int .i64 0)), (.v false (.int .i64 0)), (.nl 3), (.v false (.int .i64 0)), (.v false (.int .i64 0)), (.v false (.int .i64 0)), (.v false (.int .i64 0)), (.v false (.int .i64 0)), (.v false (.int .i64 0)), (.v false (.int .i64 0)), (.v false (.str ⟨#[]⟩)), (.nl 7), (.v false (.int .i64 0)), (.nl 1), (.nl 2), (.v false (.int .i64 0)), (.v false (.bool false)), (.v false (.int .i64 0)), (.v false (.int .i64 0)), (.v false (.str ⟨#[]⟩)), (.v false (.int .i64 0)), (.v false (.int .i64 0)), (.v false (.int .i64 0)), (.v false (.int .i64 0)), (.v false (.int .i64 0))], none⟩,
      ⟨none, .st 25 (.t 6) (.t 12), none⟩] none)
    (.seq (.seq (.reg [2, 3, 4, 5, 6, 14] [] [
        ⟨some 13, .mv (.t 4), none⟩,
        ⟨some 14, .call 375 [0] [(.t 13), (.c (.v false (.int .i64 4)))], none⟩] none)
      (.blk 0 (.seq (.reg [2, 3, 4, 5, 6, 14, 15] [] [
          ⟨some 16, .bin .eql (.t 14) (.c (.v false (.int .i64 0))), none⟩,
          ⟨some 15, .mv (.t 16), none⟩] none)
        (.cond (.t 15) (.reg [2, 3, 5, 6] [] [
           ⟨some 17, .mv (.t 4), none⟩,
           ⟨some 18, .call 386 [0] [(.t 17)], none⟩,
           ⟨none, .st 25 (.t 6) (.t 18), none⟩] none)
         (.seq (.reg [2, 3, 5, 6, 19] [] [
            ⟨some 20, .bin .eql (.t 14) (.c (.v false (.int .i64 1))), none⟩,
            ⟨some 19, .mv (.t 20), none⟩] none)
          (.cond (.t 19) (.reg [2, 3, 5, 6] [] [
             ⟨some 21, .fad (.t 6) 3, none⟩,
             ⟨some 22, .ld false 1 (.t 21), none⟩,
             ⟨some 23, .bin .add (.t 22) (.c (.v false (.int .i64 1))), none⟩,
             ⟨some 24, .fad (.t 6) 3, none⟩,
             ⟨none, .st 1 (.t 24) (.t 23), none⟩] none)
           (.skip)))))))
     (.seq (.reg [2, 3] [] [
        ⟨some 25, .ld true 25 (.t 5), none⟩,
        ⟨some 26, .ld true 25 (.t 6), none⟩,
        ⟨none, .st 25 (.t 2) (.t 25), none⟩,
        ⟨none, .st 25 (.t 3) (.t 26), none⟩] (some [(1, 2)]))
      (.ret))))))

def pf289 : PF := ⟨[.b 2 25 true, .b 3 25 true], [], pb289⟩

-- loop.example/g00496/spec.Order
def pl317_0 : PC :=
.seq (.seq (.reg [0, 3, 4, 5, 39] [] [
                  ⟨some 21, .mv (.t 5), none⟩,
                  ⟨some 22, .bin .gtr (.t 21) (.c (.v false (.int .i64 0))), none⟩,
                  ⟨some 23, .mv (.t 22), none⟩,
                  ⟨some 24, .mv (.t 0), some (23, true)⟩,
                  ⟨some 25, .mv (.t 3), some (23, true)⟩,
                  ⟨some 26, .mv (.t 5), some (23, true)⟩,
                  ⟨some 27, .bin .sub (.t 26) (.c (.v false (.int .i64 1))), some (23, true)⟩,
                  ⟨some 28, .iad 1 (.t 25) (.t 27), some (23, true)⟩,
                  ⟨some 29, .ld false 1 (.t 28), some (23, true)⟩,
                  ⟨some 30, .iad 25 (.t 24) (.t 29), some (23, true)⟩,
                  ⟨some 31, .fad (.t 30) 23, some (23, true)⟩,
                  ⟨some 32, .ld false 1 (.t 31), some (23, true)⟩,
                  ⟨some 33, .mv (.t 0), some (23, true)⟩,
                  ⟨some 34, .mv (.t 4), some (23, true)⟩,
                  ⟨some 35, .iad 25 (.t 33) (.t 34), some (23, true)⟩,
                  ⟨some 36, .fad (.t 35) 23, some (23, true)⟩,
                  ⟨some 37, .ld false 1 (.t 36), some (23, true)⟩,
                  ⟨some 38, .bin .gtr (.t 32) (.t 37), some (23, true)⟩,
                  ⟨some 39, .pick (.t 23) (.t 38) (.c (.v false (.bool false))), none⟩] (some []))
                (.cond (.t 39) (.skip)
                 (.exit 2)))
               (.blk 3 (.reg [0, 3, 4, 5] [] [
                  ⟨some 40, .mv (.t 5), none⟩,
                  ⟨some 41, .bin .sub (.t 40) (.c (.v false (.int .i64 1))), none⟩,
                  ⟨some 5, .mv (.t 41), none⟩] none))

def pl317_1 : PC :=
.seq (.seq (.reg [0, 3, 4, 10] [] [
          ⟨some 7, .mv (.t 4), none⟩,
          ⟨some 8, .mv (.t 0), none⟩,
          ⟨some 9, .len (.t 8), none⟩,
          ⟨some 10, .bin .lss (.t 7) (.t 9), none⟩] none)
        (.cond (.t 10) (.skip)
         (.exit 0)))
       (.seq (.blk 1 (.seq (.seq (.reg [0, 3, 4, 18] [] [
             ⟨some 13, .mv (.t 0), none⟩,
             ⟨some 14, .mv (.t 4), none⟩,
             ⟨some 15, .iad 25 (.t 13) (.t 14), none⟩,
             ⟨some 16, .fad (.t 15) 23, none⟩,
             ⟨some 17, .ld false 1 (.t 16), none⟩,
             ⟨some 18, .bin .eql (.t 17) (.c (.v false (.int .i64 (-1)))), none⟩] none)
           (.cond (.t 18) (.exit 1)
            (.skip)))
          (.seq (.reg [0, 3, 4, 5] [] [
             ⟨some 19, .mv (.t 3), none⟩,
             ⟨some 20, .len (.t 19), none⟩,
             ⟨some 5, .mv (.t 20), none⟩] none)
           (.seq (.blk 2 (.loop pl317_0))
            (.reg [0, 3, 4] [(53, 3)] [
              ⟨some 42, .bsl 1 [] 0 [], none⟩,
              ⟨some 43, .mv (.t 3), none⟩,
              ⟨some 44, .mv (.t 5), none⟩,
              ⟨some 45, .slc 1 (.t 43) none (some (.t 44)), none⟩,
              ⟨some 46, .appf 1 8 (.t 42) (.t 45), none⟩,
              ⟨some 47, .mv (.t 4), none⟩,
              ⟨some 48, .bsl 1 [.int .i64 0] 1 [(0, (.t 47))], none⟩,
              ⟨some 49, .appf 1 8 (.t 46) (.t 48), none⟩,
              ⟨some 50, .mv (.t 3), none⟩,
              ⟨some 51, .mv (.t 5), none⟩,
              ⟨some 52, .slc 1 (.t 50) (some (.t 51)) none, none⟩,
              ⟨some 53, .appf 1 8 (.t 49) (.t 52), none⟩,
              ⟨some 3, .mv (.t 53), none⟩] (some [(0, 3), (0, 6), (3, 6), (4, 6), (0, 10), (4, 10), (6, 10), (7, 10)]))))))
        (.reg [0, 3, 4] [] [
          ⟨some 11, .mv (.t 4), none⟩,
          ⟨some 12, .bin .add (.t 11) (.c (.v false (.int .i64 1))), none⟩,
          ⟨some 4, .mv (.t 12), none⟩] none))

def pb317 : PC :=
.seq (.reg [0] [] [
   ⟨some 2, .mv (.c (.nl 1)), none⟩] none)
 (.seq (.reg [0, 3] [(6, 3)] [
    ⟨some 6, .bsl 1 [] 0 [], none⟩,
    ⟨some 3, .mv (.t 6), none⟩] none)
  (.seq (.seq (.reg [0, 3, 4] [] [
      ⟨some 4, .mv (.c (.v false (.int .i64 0))), none⟩] none)
    (.blk 0 (.loop pl317_1)))
   (.seq (.reg [2, 3] [] [
      ⟨some 54, .mv (.t 3), none⟩,
      ⟨some 2, .mv (.t 54), none⟩] none)
    (.ret))))

def pf317 : PF := ⟨[.s 2], [], pb317⟩

-- loop.example/g00496/spec.PredOk
def pb320 : PC :=
.seq (.reg [0, 3] [] [
   ⟨some 3, .box 7 (.t 1), none⟩,
   ⟨some 4, .mv (.c (.v false (.bool false))), none⟩] none)
 (.seq (.reg [4, 10] [(6, 4)] [
    ⟨some 5, .mv (.t 0), none⟩,
    ⟨some 6, .call 268 [] [(.t 5)], none⟩,
    ⟨some 7, .mv (.t 6), none⟩,
    ⟨some 8, .mv (.t 0), some (7, true)⟩,
    ⟨some 9, .ld true 7 (.t 3), some (7, true)⟩,
    ⟨some 10, .call 350 [] [(.t 8), (.t 9), (.c (.v false (.int .i64 1)))], some (7, true)⟩,
    ⟨some 11, .pick (.t 7) (.t 10) (.c (.v false (.bool false))), none⟩,
    ⟨some 12, .mv (.t 11), none⟩,
    ⟨some 13, .ld true 7 (.t 3), some (12, true)⟩,
    ⟨some 14, .call 349 [] [(.t 13)], some (12, true)⟩,
    ⟨some 15, .bin .leq (.t 14) (.c (.v false (.int .i64 8))), some (12, true)⟩,
    ⟨some 16, .pick (.t 12) (.t 15) (.c (.v false (.bool false))), none⟩,
    ⟨some 4, .mv (.t 16), none⟩] none)
  (.ret))

def pf320 : PF := ⟨[.s 4], [], pb320⟩

-- loop.example/g00496/spec.PutOf
def pl321_0 : PC :=
.seq (.seq (.reg [0, 1, 5, 9] [] [
         ⟨some 6, .mv (.t 5), none⟩,
         ⟨some 7, .mv (.t 0), none⟩,
         ⟨some 8, .len (.t 7), none⟩,
         ⟨some 9, .bin .lss (.t 6) (.t 8), none⟩] none)
       (.cond (.t 9) (.skip)
        (.exit 0)))
      (.seq (.blk 1 (.seq (.reg [0, 1, 5, 30] [] [
           ⟨some 12, .mv (.t 0), none⟩,
           ⟨some 13, .mv (.t 5), none⟩,
           ⟨some 14, .iad 25 (.t 12) (.t 13), none⟩,
           ⟨some 15, .fad (.t 14) 0, none⟩,
           ⟨some 16, .ld false 1 (.t 15), none⟩,
           ⟨some 17, .bin .eql (.t 16) (.c (.v false (.int .i64 1))), none⟩,
           ⟨some 18, .mv (.t 17), none⟩,
           ⟨some 19, .mv (.t 0), some (18, true)⟩,
           ⟨some 20, .mv (.t 5), some (18, true)⟩,
           ⟨some 21, .iad 25 (.t 19) (.t 20), some (18, true)⟩,
           ⟨some 22, .fad (.t 21) 3, some (18, true)⟩,
           ⟨some 23, .ld false 1 (.t 22), some (18, true)⟩,
           ⟨some 24, .mv (.t 1), some (18, true)⟩,
           ⟨some 25, .bin .eql (.t 23) (.t 24), some (18, true)⟩,
           ⟨some 26, .pick (.t 18) (.t 25) (.c (.v false (.bool false))), none⟩,
           ⟨some 27, .mv (.t 26), none⟩,
           ⟨some 28, .mv (.t 1), some (27, true)⟩,
           ⟨some 29, .bin .geq (.t 28) (.c (.v false (.int .i64 0))), some (27, true)⟩,
           ⟨some 30, .pick (.t 27) (.t 29) (.c (.v false (.bool false))), none⟩] none)
         (.cond (.t 30) (.seq (.reg [4] [] [
             ⟨some 31, .mv (.t 5), none⟩,
             ⟨some 4, .mv (.t 31), none⟩] none)
           (.ret))
          (.skip))))
       (.reg [0, 1, 5] [] [
         ⟨some 10, .mv (.t 5), none⟩,
         ⟨some 11, .bin .add (.t 10) (.c (.v false (.int .i64 1))), none⟩,
         ⟨some 5, .mv (.t 11), none⟩] none))

def pb321 : PC :=
.seq (.reg [0, 1] [] [
   ⟨some 4, .mv (.c (.v false (.int .i64 0))), none⟩] none)
 (.seq (.seq (.reg [0, 1, 5] [] [
     ⟨some 5, .mv (.c (.v false (.int .i64 0))), none⟩] none)
   (.blk 0 (.loop pl321_0)))
  (.seq (.reg [4] [] [
     ⟨some 4, .mv (.c (.v false (.int .i64 (-1)))), none⟩] none)
   (.ret)))

def pf321 : PF := ⟨[.s 4], [], pb321⟩

-- loop.example/g00496/spec.ValOk
def pl341_0 : PC :=
.seq (.seq (.reg [1, 3, 23] [] [
          ⟨some 15, .mv (.t 3), none⟩,
          ⟨some 16, .fad (.t 1) 2, none⟩,
          ⟨some 17, .ld false 1 (.t 16), none⟩,
          ⟨some 18, .lens (.t 17), none⟩,
          ⟨some 19, .bin .lss (.t 15) (.t 18), none⟩,
          ⟨some 20, .mv (.t 19), none⟩,
          ⟨some 21, .mv (.t 3), some (20, true)⟩,
          ⟨some 22, .bin .leq (.t 21) (.c (.v false (.int .i64 6))), some (20, true)⟩,
          ⟨some 23, .pick (.t 20) (.t 22) (.c (.v false (.bool false))), none⟩] none)
        (.cond (.t 23) (.skip)
         (.exit 0)))
       (.seq (.blk 1 (.seq (.reg [1, 3, 41] [] [
            ⟨some 26, .fad (.t 1) 2, none⟩,
            ⟨some 27, .ld false 1 (.t 26), none⟩,
            ⟨some 28, .mv (.t 3), none⟩,
            ⟨some 29, .idx (.t 27) (.t 28), none⟩,
            ⟨some 30, .cvi .i64 (.t 29), none⟩,
            ⟨some 31, .call 377 [] [(.t 30), (.c (.v false (.int .i64 97))), (.c (.v false (.int .i64 122)))], none⟩,
            ⟨some 32, .un .not (.t 31), none⟩,
            ⟨some 33, .mv (.t 32), none⟩,
            ⟨some 34, .fad (.t 1) 2, some (33, true)⟩,
            ⟨some 35, .ld false 1 (.t 34), some (33, true)⟩,
            ⟨some 36, .mv (.t 3), some (33, true)⟩,
            ⟨some 37, .idx (.t 35) (.t 36), some (33, true)⟩,
            ⟨some 38, .cvi .i64 (.t 37), some (33, true)⟩,
            ⟨some 39, .call 377 [] [(.t 38), (.c (.v false (.int .i64 48))), (.c (.v false (.int .i64 57)))], some (33, true)⟩,
            ⟨some 40, .un .not (.t 39), some (33, true)⟩,
            ⟨some 41, .pick (.t 33) (.t 40) (.c (.v false (.bool false))), none⟩] none)
          (.cond (.t 41) (.seq (.reg [2] [] [
              ⟨some 2, .mv (.c (.v false (.bool false))), none⟩] none)
            (.ret))
           (.skip))))
        (.reg [1, 3] [] [
          ⟨some 24, .mv (.t 3), none⟩,
          ⟨some 25, .bin .add (.t 24) (.c (.v false (.int .i64 1))), none⟩,
          ⟨some 3, .mv (.t 25), none⟩] none))

def pb341 : PC :=
.seq (.reg [1] [] [
   ⟨some 1, .box 3 (.t 0), none⟩,
   ⟨some 2, .mv (.c (.v false (.bool false))), none⟩] none)
 (.seq (.seq (.reg [1, 6] [] [
     ⟨some 4, .fad (.t 1) 0, none⟩,
     ⟨some 5, .ld false 1 (.t 4), none⟩,
     ⟨some 6, .bin .eql (.t 5) (.c (.v false (.int .i64 1))), none⟩] none)
   (.cond (.t 6) (.seq (.reg [2] [(9, 2)] [
       ⟨some 7, .fad (.t 1) 1, none⟩,
       ⟨some 8, .ld false 1 (.t 7), none⟩,
       ⟨some 9, .call 384 [] [(.t 8)], none⟩,
       ⟨some 10, .mv (.t 9), none⟩,
       ⟨some 11, .fad (.t 1) 2, some (10, true)⟩,
       ⟨some 12, .ld false 1 (.t 11), some (10, true)⟩,
       ⟨some 13, .bin .eql (.t 12) (.c (.v false (.str ⟨#[]⟩))), some (10, true)⟩,
       ⟨some 14, .pick (.t 10) (.t 13) (.c (.v false (.bool false))), none⟩,
       ⟨some 2, .mv (.t 14), none⟩] none)
     (.ret))
    (.skip)))
  (.seq (.seq (.reg [1, 3] [] [
      ⟨some 3, .mv (.c (.v false (.int .i64 0))), none⟩] none)
    (.blk 0 (.loop pl341_0)))
   (.seq (.reg [2] [] [
      ⟨some 42, .fad (.t 1) 0, none⟩,
      ⟨some 43, .ld false 1 (.t 42), none⟩,
      ⟨some 44, .bin .eql (.t 43) (.c (.v false (.int .i64 2))), none⟩,
      ⟨some 45, .mv (.t 44), none⟩,
      ⟨some 46, .fad (.t 1) 1, some (45, true)⟩,
      ⟨some 47, .ld false 1 (.t 46), some (45, true)⟩,
      ⟨some 48, .bin .eql (.t 47) (.c (.v false (.int .i64 0))), some (45, true)⟩,
      ⟨some 49, .pick (.t 45) (.t 48) (.c (.v false (.bool false))), none⟩,
      ⟨some 50, .mv (.t 49), none⟩,
      ⟨some 51, .fad (.t 1) 2, some (50, true)⟩,
      ⟨some 52, .ld false 1 (.t 51), some (50, true)⟩,
      ⟨some 53, .lens (.t 52), some (50, true)⟩,
      ⟨some 54, .bin .leq (.t 53) (.c (.v false (.int .i64 6))), some (50, true)⟩,
      ⟨some 55, .pick (.t 50) (.t 54) (.c (.v false (.bool false))), none⟩,
      ⟨some 2, .mv (.t 55), none⟩] none)
    (.ret))))

def pf341 : PF := ⟨[.s 2], [], pb341⟩

-- loop.example/g00496/spec.l11Cmp1
def pb348 : PC :=
.seq (.reg [0, 1, 4] [] [
   ⟨some 4, .alloc [(.v false (.int .i64 0)), (.v false (.int .i64 0)), (.v false (.int .i64 0)), (.v false (.int .i64 0)), (.v false (.int .i64 0)), (.v false (.str ⟨#[]⟩)), (.nl 7)], none⟩] none)
 (.seq (.reg [0, 1, 4, 5] [(10, 5)] [
    ⟨some 7, .mv (.t 0), none⟩,
    ⟨some 8, .mv (.t 1), none⟩,
    ⟨some 9, .len (.t 8), none⟩,
    ⟨some 10, .call 375 [0] [(.t 7), (.t 9)], none⟩,
    ⟨some 5, .mv (.t 10), none⟩] none)
  (.seq (.reg [0, 1, 4, 5, 6] [] [
     ⟨some 11, .mv (.t 0), none⟩,
     ⟨some 12, .call 395 [0] [(.t 11)], none⟩,
     ⟨some 6, .alloc [(.v false (.int .i64 0)), (.v false (.int .i64 0)), (.v false (.str ⟨#[]⟩))], none⟩,
     ⟨none, .st 3 (.t 6) (.t 12), none⟩] none)
   (.seq (.seq (.reg [0, 4, 5, 6, 17] [] [
       ⟨some 13, .mv (.t 1), none⟩,
       ⟨some 14, .mv (.t 5), none⟩,
       ⟨some 15, .iad 1 (.t 13) (.t 14), none⟩,
       ⟨some 16, .ld false 1 (.t 15), none⟩,
       ⟨some 17, .bin .eql (.t 16) (.c (.v false (.int .i64 2))), none⟩] none)
     (.cond (.t 17) (.reg [0, 4, 5, 6] [] [
        ⟨some 18, .mv (.t 0), none⟩,
        ⟨some 19, .call 396 [0] [(.t 18)], none⟩,
        ⟨none, .st 3 (.t 6) (.t 19), none⟩] none)
      (.skip)))
    (.seq (.reg [0, 4] [] [
       ⟨some 20, .mv (.t 5), none⟩,
       ⟨some 21, .mv (.t 0), none⟩,
       ⟨some 22, .call 375 [0] [(.t 21), (.c (.v false (.int .i64 6)))], none⟩,
       ⟨some 23, .bin .add (.c (.v false (.int .i64 1))) (.t 22), none⟩,
       ⟨some 24, .ld true 3 (.t 6), none⟩,
       ⟨some 25, .build [(.v false (.int .i64 0)), (.v false (.int .i64 0)), (.v false (.int .i64 0)), (.v false (.int .i64 0)), (.v false (.int .i64 0)), (.v false (.str ⟨#[]⟩)), (.nl 7)] [(0, 1, (.c (.v false (.int .i64 2)))), (1, 1, (.t 20)), (2, 1, (.t 23)), (3, 3, (.t 24))], none⟩,
       ⟨none, .st 7 (.t 4) (.t 25), none⟩] (some [(2, 4)]))
     (.ret)))))

def pf348 : PF := ⟨[.b 4 7 true], [0], pb348⟩

-- loop.example/g00496/spec.l11Count
def pl349_0 : PC :=
.seq (.seq (.reg [1, 3, 4, 9] [] [
          ⟨some 5, .mv (.t 4), none⟩,
          ⟨some 6, .fad (.t 1) 6, none⟩,
          ⟨some 7, .ld false 1 (.t 6), none⟩,
          ⟨some 8, .len (.t 7), none⟩,
          ⟨some 9, .bin .lss (.t 5) (.t 8), none⟩] none)
        (.cond (.t 9) (.skip)
         (.exit 0)))
       (.seq (.blk 1 (.reg [1, 3, 4] [] [
           ⟨some 12, .mv (.t 3), none⟩,
           ⟨some 13, .fad (.t 1) 6, none⟩,
           ⟨some 14, .ld false 1 (.t 13), none⟩,
           ⟨some 15, .mv (.t 4), none⟩,
           ⟨some 16, .iad 7 (.t 14) (.t 15), none⟩,
           ⟨some 17, .ld true 7 (.t 16), none⟩,
           ⟨some 18, .call 349 [] [(.t 17)], none⟩,
           ⟨some 19, .bin .add (.t 12) (.t 18), none⟩,
           ⟨some 3, .mv (.t 19), none⟩] none))
        (.reg [1, 3, 4] [] [
          ⟨some 10, .mv (.t 4), none⟩,
          ⟨some 11, .bin .add (.t 10) (.c (.v false (.int .i64 1))), none⟩,
          ⟨some 4, .mv (.t 11), none⟩] none))

def pb349 : PC :=
.seq (.reg [1] [] [
   ⟨some 1, .box 7 (.t 0), none⟩,
   ⟨some 2, .mv (.c (.v false (.int .i64 0))), none⟩] none)
 (.seq (.reg [1, 3] [] [
    ⟨some 3, .mv (.c (.v false (.int .i64 1))), none⟩] none)
  (.seq (.seq (.reg [1, 3, 4] [] [
      ⟨some 4, .mv (.c (.v false (.int .i64 0))), none⟩] none)
    (.blk 0 (.loop pl349_0)))
   (.seq (.reg [2] [] [
      ⟨some 20, .mv (.t 3), none⟩,
      ⟨some 2, .mv (.t 20), none⟩] none)
    (.ret))))

def pf349 : PF := ⟨[.s 2], [], pb349⟩

-- loop.example/g00496/spec.l11Deep
def pl350_0 : PC :=
.seq (.seq (.reg [0, 2, 4, 7, 15] [] [
          ⟨some 11, .mv (.t 7), none⟩,
          ⟨some 12, .fad (.t 4) 6, none⟩,
          ⟨some 13, .ld false 1 (.t 12), none⟩,
          ⟨some 14, .len (.t 13), none⟩,
          ⟨some 15, .bin .lss (.t 11) (.t 14), none⟩] none)
        (.cond (.t 15) (.skip)
         (.exit 0)))
       (.seq (.blk 1 (.seq (.reg [0, 2, 4, 7, 27] [] [
            ⟨some 18, .mv (.t 0), none⟩,
            ⟨some 19, .fad (.t 4) 6, none⟩,
            ⟨some 20, .ld false 1 (.t 19), none⟩,
            ⟨some 21, .mv (.t 7), none⟩,
            ⟨some 22, .iad 7 (.t 20) (.t 21), none⟩,
            ⟨some 23, .ld true 7 (.t 22), none⟩,
            ⟨some 24, .mv (.t 2), none⟩,
            ⟨some 25, .bin .add (.t 24) (.c (.v false (.int .i64 1))), none⟩,
            ⟨some 26, .call 350 [] [(.t 18), (.t 23), (.t 25)], none⟩,
            ⟨some 27, .un .not (.t 26), none⟩] none)
          (.cond (.t 27) (.seq (.reg [6] [] [
              ⟨some 6, .mv (.c (.v false (.bool false))), none⟩] none)
            (.ret))
           (.skip))))
        (.reg [0, 2, 4, 7] [] [
          ⟨some 16, .mv (.t 7), none⟩,
          ⟨some 17, .bin .add (.t 16) (.c (.v false (.int .i64 1))), none⟩,
          ⟨some 7, .mv (.t 17), none⟩] none))

def pb350 : PC :=
.seq (.reg [0, 2, 4] [] [
   ⟨some 4, .box 7 (.t 1), none⟩,
   ⟨some 6, .mv (.c (.v false (.bool false))), none⟩] none)
 (.seq (.seq (.reg [0, 2, 4, 10] [] [
     ⟨some 9, .mv (.t 2), none⟩,
     ⟨some 10, .bin .gtr (.t 9) (.c (.v false (.int .i64 4))), none⟩] none)
   (.cond (.t 10) (.seq (.reg [6] [] [
       ⟨some 6, .mv (.c (.v false (.bool false))), none⟩] none)
     (.ret))
    (.skip)))
  (.seq (.seq (.reg [0, 2, 4, 7] [] [
      ⟨some 7, .mv (.c (.v false (.int .i64 0))), none⟩] none)
    (.blk 0 (.loop pl350_0)))
   (.seq (.reg [0, 4, 8] [] [
      ⟨some 28, .fad (.t 4) 1, none⟩,
      ⟨some 29, .ld false 1 (.t 28), none⟩,
      ⟨some 30, .bin .eql (.t 29) (.c (.v false (.int .i64 0))), none⟩,
      ⟨some 31, .mv (.t 30), none⟩,
      ⟨some 32, .fad (.t 4) 2, some (31, true)⟩,
      ⟨some 33, .ld false 1 (.t 32), some (31, true)⟩,
      ⟨some 34, .bin .eql (.t 33) (.c (.v false (.int .i64 0))), some (31, true)⟩,
      ⟨some 35, .pick (.t 31) (.t 34) (.c (.v false (.bool false))), none⟩,
      ⟨some 36, .mv (.t 35), none⟩,
      ⟨some 37, .fad (.t 4) 3, some (36, true)⟩,
      ⟨some 38, .ld true 3 (.t 37), some (36, true)⟩,
      ⟨some 39, .build [(.v false (.int .i64 0)), (.v false (.int .i64 0)), (.v false (.str ⟨#[]⟩))] [], some (36, true)⟩,
      ⟨some 40, .eqs false [0, 0, 2] (.t 38) (.t 39), some (36, true)⟩,
      ⟨some 41, .pick (.t 36) (.t 40) (.c (.v false (.bool false))), none⟩,
      ⟨some 8, .mv (.t 41), none⟩] none)
    (.seq (.seq (.reg [0, 4, 8, 43] [] [
        ⟨some 42, .fad (.t 4) 0, none⟩,
        ⟨some 43, .ld false 1 (.t 42), none⟩] none)
      (.blk 2 (.seq (.reg [0, 4, 8, 43, 44] [] [
          ⟨some 45, .bin .eql (.t 43) (.c (.v false (.int .i64 1))), none⟩,
          ⟨some 44, .mv (.t 45), none⟩] none)
        (.cond (.t 44) (.seq (.reg [6] [] [
            ⟨some 46, .mv (.t 8), none⟩,
            ⟨some 47, .mv (.t 46), none⟩,
            ⟨some 48, .fad (.t 4) 6, some (47, true)⟩,
            ⟨some 49, .ld false 1 (.t 48), some (47, true)⟩,
            ⟨some 50, .len (.t 49), some (47, true)⟩,
            ⟨some 51, .bin .eql (.t 50) (.c (.v false (.int .i64 0))), some (47, true)⟩,
            ⟨some 52, .pick (.t 47) (.t 51) (.c (.v false (.bool false))), none⟩,
            ⟨some 6, .mv (.t 52), none⟩] none)
          (.ret))
         (.seq (.reg [0, 4, 8, 43, 53] [] [
            ⟨some 54, .bin .eql (.t 43) (.c (.v false (.int .i64 2))), none⟩,
            ⟨some 53, .mv (.t 54), none⟩] none)
          (.cond (.t 53) (.seq (.reg [6, 64, 80] [(60, 6)] [
              ⟨some 55, .fad (.t 4) 1, none⟩,
              ⟨some 56, .ld false 1 (.t 55), none⟩,
              ⟨some 57, .mv (.t 0), none⟩,
              ⟨some 58, .len (.t 57), none⟩,
              ⟨some 59, .bin .sub (.t 58) (.c (.v false (.int .i64 1))), none⟩,
              ⟨some 60, .call 377 [] [(.t 56), (.c (.v false (.int .i64 0))), (.t 59)], none⟩,
              ⟨some 61, .mv (.t 60), none⟩,
              ⟨some 62, .fad (.t 4) 3, some (61, true)⟩,
              ⟨some 63, .ld true 3 (.t 62), some (61, true)⟩,
              ⟨some 64, .call 341 [] [(.t 63)], some (61, true)⟩,
              ⟨some 65, .pick (.t 61) (.t 64) (.c (.v false (.bool false))), none⟩,
              ⟨some 66, .mv (.t 65), none⟩,
              ⟨some 67, .fad (.t 4) 3, some (66, true)⟩,
              ⟨some 68, .fad (.t 67) 0, some (66, true)⟩,
              ⟨some 69, .ld false 1 (.t 68), some (66, true)⟩,
              ⟨some 70, .mv (.t 0), some (66, true)⟩,
              ⟨some 71, .fad (.t 4) 1, some (66, true)⟩,
              ⟨some 72, .ld false 1 (.t 71), some (66, true)⟩,
              ⟨some 73, .iad 1 (.t 70) (.t 72), some (66, true)⟩,
              ⟨some 74, .ld false 1 (.t 73), some (66, true)⟩,
              ⟨some 75, .bin .eql (.t 69) (.t 74), some (66, true)⟩,
              ⟨some 76, .pick (.t 66) (.t 75) (.c (.v false (.bool false))), none⟩,
              ⟨some 77, .mv (.t 76), none⟩,
              ⟨some 78, .fad (.t 4) 2, some (77, true)⟩,
              ⟨some 79, .ld false 1 (.t 78), some (77, true)⟩,
              ⟨some 80, .call 377 [] [(.t 79), (.c (.v false (.int .i64 1))), (.c (.v false (.int .i64 6)))], some (77, true)⟩,
              ⟨some 81, .pick (.t 77) (.t 80) (.c (.v false (.bool false))), none⟩,
              ⟨some 82, .mv (.t 81), none⟩,
              ⟨some 83, .fad (.t 4) 6, some (82, true)⟩,
              ⟨some 84, .ld false 1 (.t 83), some (82, true)⟩,
              ⟨some 85, .len (.t 84), some (82, true)⟩,
              ⟨some 86, .bin .eql (.t 85) (.c (.v false (.int .i64 0))), some (82, true)⟩,
              ⟨some 87, .pick (.t 82) (.t 86) (.c (.v false (.bool false))), none⟩,
              ⟨some 6, .mv (.t 87), none⟩] (some []))
            (.ret))
           (.seq (.seq (.reg [4, 8, 43, 88] [] [
               ⟨some 89, .bin .eql (.t 43) (.c (.v false (.int .i64 3))), none⟩,
               ⟨some 88, .mv (.t 89), none⟩] none)
             (.cond (.t 88) (.skip)
              (.reg [4, 8, 88] [] [
                ⟨some 90, .bin .eql (.t 43) (.c (.v false (.int .i64 4))), none⟩,
                ⟨some 88, .mv (.t 90), none⟩] none)))
            (.cond (.t 88) (.seq (.reg [6] [(96, 6)] [
                ⟨some 91, .mv (.t 8), none⟩,
                ⟨some 92, .mv (.t 91), none⟩,
                ⟨some 93, .fad (.t 4) 6, some (92, true)⟩,
                ⟨some 94, .ld false 1 (.t 93), some (92, true)⟩,
                ⟨some 95, .len (.t 94), some (92, true)⟩,
                ⟨some 96, .call 377 [] [(.t 95), (.c (.v false (.int .i64 1))), (.c (.v false (.int .i64 4)))], some (92, true)⟩,
                ⟨some 97, .pick (.t 92) (.t 96) (.c (.v false (.bool false))), none⟩,
                ⟨some 6, .mv (.t 97), none⟩] none)
              (.ret))
             (.skip)))))))))
     (.seq (.reg [6] [] [
        ⟨some 98, .fad (.t 4) 0, none⟩,
        ⟨some 99, .ld false 1 (.t 98), none⟩,
        ⟨some 100, .bin .eql (.t 99) (.c (.v false (.int .i64 5))), none⟩,
        ⟨some 101, .mv (.t 100), none⟩,
        ⟨some 102, .mv (.t 8), some (101, true)⟩,
        ⟨some 103, .pick (.t 101) (.t 102) (.c (.v false (.bool false))), none⟩,
        ⟨some 104, .mv (.t 103), none⟩,
        ⟨some 105, .fad (.t 4) 6, some (104, true)⟩,
        ⟨some 106, .ld false 1 (.t 105), some (104, true)⟩,
        ⟨some 107, .len (.t 106), some (104, true)⟩,
        ⟨some 108, .bin .eql (.t 107) (.c (.v false (.int .i64 1))), some (104, true)⟩,
        ⟨some 109, .pick (.t 104) (.t 108) (.c (.v false (.bool false))), none⟩,
        ⟨some 6, .mv (.t 109), none⟩] none)
      (.ret))))))

def pf350 : PF := ⟨[.s 6], [], pb350⟩

-- loop.example/g00496/spec.l11Draw
def pl351_0 : PC :=
.seq (.seq (.reg [0, 1, 2, 6, 7, 8, 9, 31] [] [
            ⟨some 30, .mv (.t 9), none⟩,
            ⟨some 31, .bin .gtr (.t 30) (.c (.v false (.int .i64 0))), none⟩] none)
          (.cond (.t 31) (.skip)
           (.exit 0)))
         (.seq (.blk 1 (.seq (.reg [0, 1, 2, 6, 7, 8, 9, 10] [] [
              ⟨some 34, .mv (.t 0), none⟩,
              ⟨some 35, .mv (.t 1), none⟩,
              ⟨some 36, .mv (.t 2), none⟩,
              ⟨some 37, .bin .sub (.t 36) (.c (.v false (.int .i64 1))), none⟩,
              ⟨some 38, .call 351 [0] [(.t 34), (.t 35), (.t 37)], none⟩,
              ⟨some 10, .alloc [(.v false (.int .i64 0)), (.v false (.int .i64 0)), (.v false (.int .i64 0)), (.v false (.int .i64 0)), (.v false (.int .i64 0)), (.v false (.str ⟨#[]⟩)), (.nl 7)], none⟩,
              ⟨none, .st 7 (.t 10) (.t 38), none⟩] none)
            (.reg [0, 1, 2, 6, 7, 8, 9] [(42, 8)] [
              ⟨some 39, .mv (.t 8), none⟩,
              ⟨some 40, .ld true 7 (.t 10), none⟩,
              ⟨some 41, .bsl 7 [.int .i64 0, .int .i64 0, .int .i64 0, .int .i64 0, .int .i64 0, .str ⟨#[]⟩, .sl 7 []] 1 [(0, (.t 40))], none⟩,
              ⟨some 42, .app 7 80 (.t 39) (.t 41), none⟩,
              ⟨some 8, .mv (.t 42), none⟩] none)))
          (.reg [0, 1, 2, 6, 7, 8, 9] [] [
            ⟨some 32, .mv (.t 9), none⟩,
            ⟨some 33, .bin .sub (.t 32) (.c (.v false (.int .i64 1))), none⟩,
            ⟨some 9, .mv (.t 33), none⟩] none))

def pb351 : PC :=
.seq (.reg [0, 1, 2, 6] [] [
   ⟨some 6, .alloc [(.v false (.int .i64 0)), (.v false (.int .i64 0)), (.v false (.int .i64 0)), (.v false (.int .i64 0)), (.v false (.int .i64 0)), (.v false (.str ⟨#[]⟩)), (.nl 7)], none⟩] none)
 (.seq (.seq (.reg [0, 1, 2, 6, 16] [(15, 16)] [
     ⟨some 11, .mv (.t 2), none⟩,
     ⟨some 12, .bin .eql (.t 11) (.c (.v false (.int .i64 0))), none⟩,
     ⟨some 13, .mv (.t 12), none⟩,
     ⟨some 14, .mv (.t 0), some (13, false)⟩,
     ⟨some 15, .call 382 [0] [(.t 14), (.c (.v false (.int .i64 3)))], some (13, false)⟩,
     ⟨some 16, .pick (.t 13) (.c (.v false (.bool true))) (.t 15), none⟩] none)
   (.cond (.t 16) (.seq (.seq (.reg [0, 1, 6, 18] [] [
        ⟨some 17, .mv (.t 0), none⟩,
        ⟨some 18, .call 382 [0] [(.t 17), (.c (.v false (.int .i64 5)))], none⟩] none)
      (.cond (.t 18) (.seq (.reg [0, 6] [] [
          ⟨some 19, .build [(.v false (.int .i64 0)), (.v false (.int .i64 0)), (.v false (.int .i64 0)), (.v false (.int .i64 0)), (.v false (.int .i64 0)), (.v false (.str ⟨#[]⟩)), (.nl 7)] [(0, 1, (.c (.v false (.int .i64 1))))], none⟩,
          ⟨none, .st 7 (.t 6) (.t 19), none⟩] none)
        (.ret))
       (.skip)))
     (.seq (.reg [0, 6] [] [
        ⟨some 20, .mv (.t 0), none⟩,
        ⟨some 21, .mv (.t 1), none⟩,
        ⟨some 22, .call 348 [0] [(.t 20), (.t 21)], none⟩,
        ⟨none, .st 7 (.t 6) (.t 22), none⟩] none)
      (.ret)))
    (.skip)))
  (.seq (.reg [0, 1, 2, 6, 7] [] [
     ⟨some 23, .mv (.t 0), none⟩,
     ⟨some 24, .call 375 [0] [(.t 23), (.c (.v false (.int .i64 3)))], none⟩,
     ⟨some 25, .bin .add (.c (.v false (.int .i64 3))) (.t 24), none⟩,
     ⟨some 7, .mv (.t 25), none⟩] none)
   (.seq (.reg [0, 1, 2, 6, 7, 8] [(26, 8)] [
      ⟨some 26, .bsl 7 [] 0 [], none⟩,
      ⟨some 8, .mv (.t 26), none⟩] none)
    (.seq (.seq (.reg [0, 1, 2, 6, 7, 8, 9] [] [
        ⟨some 27, .mv (.t 0), none⟩,
        ⟨some 28, .call 375 [0] [(.t 27), (.c (.v false (.int .i64 2)))], none⟩,
        ⟨some 29, .bin .add (.c (.v false (.int .i64 1))) (.t 28), none⟩,
        ⟨some 9, .mv (.t 29), none⟩] none)
      (.blk 0 (.loop pl351_0)))
     (.seq (.seq (.reg [0, 6, 7, 8, 44] [] [
         ⟨some 43, .mv (.t 7), none⟩,
         ⟨some 44, .bin .eql (.t 43) (.c (.v false (.int .i64 5))), none⟩] none)
       (.cond (.t 44) (.reg [0, 6, 7, 8] [] [
          ⟨some 45, .mv (.t 8), none⟩,
          ⟨some 46, .slc 7 (.t 45) none (some (.c (.v false (.int .i64 1)))), none⟩,
          ⟨some 8, .mv (.t 46), none⟩] none)
        (.skip)))
      (.seq (.reg [0, 6] [] [
         ⟨some 47, .mv (.t 7), none⟩,
         ⟨some 48, .mv (.t 8), none⟩,
         ⟨some 49, .build [(.v false (.int .i64 0)), (.v false (.int .i64 0)), (.v false (.int .i64 0)), (.v false (.int .i64 0)), (.v false (.int .i64 0)), (.v false (.str ⟨#[]⟩)), (.nl 7)] [(0, 1, (.t 47)), (6, 1, (.t 48))], none⟩,
         ⟨none, .st 7 (.t 6) (.t 49), none⟩] none)
       (.ret)))))))

def pf351 : PF := ⟨[.b 6 7 true], [0], pb351⟩

-- loop.example/g00496/spec.l11Right
def pb352 : PC :=
.seq (.reg [0, 1, 4] [] [
   ⟨some 4, .alloc [(.v false (.int .i64 0)), (.v false (.int .i64 0)), (.v false (.int .i64 0)), (.v false (.int .i64 0)), (.v false (.int .i64 0)), (.v false (.str ⟨#[]⟩)), (.nl 7)], none⟩] none)
 (.seq (.reg [0, 1, 4, 5] [] [
    ⟨some 6, .mv (.t 0), none⟩,
    ⟨some 7, .mv (.t 1), none⟩,
    ⟨some 8, .mv (.t 0), none⟩,
    ⟨some 9, .call 375 [0] [(.t 8), (.c (.v false (.int .i64 3)))], none⟩,
    ⟨some 10, .call 351 [0] [(.t 6), (.t 7), (.t 9)], none⟩,
    ⟨some 5, .alloc [(.v false (.int .i64 0)), (.v false (.int .i64 0)), (.v false (.int .i64 0)), (.v false (.int .i64 0)), (.v false (.int .i64 0)), (.v false (.str ⟨#[]⟩)), (.nl 7)], none⟩,
    ⟨none, .st 7 (.t 5) (.t 10), none⟩] none)
  (.seq (.seq (.reg [0, 1, 4, 5, 13] [] [
      ⟨some 11, .mv (.t 1), none⟩,
      ⟨some 12, .ld true 7 (.t 5), none⟩,
      ⟨some 13, .call 320 [] [(.t 11), (.t 12)], none⟩] none)
    (.cond (.t 13) (.seq (.reg [0, 4] [] [
        ⟨some 14, .ld true 7 (.t 5), none⟩,
        ⟨none, .st 7 (.t 4) (.t 14), none⟩] none)
      (.ret))
     (.skip)))
   (.seq (.reg [0, 4] [] [
      ⟨some 15, .mv (.t 0), none⟩,
      ⟨some 16, .mv (.t 1), none⟩,
      ⟨some 17, .call 348 [0] [(.t 15), (.t 16)], none⟩,
      ⟨none, .st 7 (.t 4) (.t 17), none⟩] none)
    (.ret))))

def pf352 : PF := ⟨[.b 4 7 true], [0], pb352⟩

-- loop.example/g00496/spec.l12Copy
def pb353 : PC :=
.seq (.reg [1, 2] [] [
   ⟨some 1, .box 10 (.t 0), none⟩,
   ⟨some 2, .alloc [(.v false (.int .i64 0)), (.v false (.int .i64 0)), (.v false (.int .i64 0)), (.v false (.int .i64 0)), (.v false (.int .i64 0)), (.v false (.int .i64 0)), (.v false (.str ⟨#[]⟩)), (.nl 7), (.v false (.int .i64 0)), (.nl 1)], none⟩] none)
 (.seq (.reg [1, 2, 3] [] [
    ⟨some 5, .ld true 10 (.t 1), none⟩,
    ⟨some 3, .alloc [(.v false (.int .i64 0)), (.v false (.int .i64 0)), (.v false (.int .i64 0)), (.v false (.int .i64 0)), (.v false (.int .i64 0)), (.v false (.int .i64 0)), (.v false (.str ⟨#[]⟩)), (.nl 7), (.v false (.int .i64 0)), (.nl 1)], none⟩,
    ⟨none, .st 10 (.t 3) (.t 5), none⟩] none)
  (.seq (.reg [1, 2, 3, 4] [] [
     ⟨some 6, .fad (.t 1) 1, none⟩,
     ⟨some 7, .ld true 7 (.t 6), none⟩,
     ⟨some 8, .call 355 [] [(.t 7)], none⟩,
     ⟨some 4, .alloc [(.v false (.int .i64 0)), (.v false (.int .i64 0)), (.v false (.int .i64 0)), (.v false (.int .i64 0)), (.v false (.int .i64 0)), (.v false (.str ⟨#[]⟩)), (.nl 7)], none⟩,
     ⟨none, .st 7 (.t 4) (.t 8), none⟩] none)
   (.seq (.reg [1, 2, 3] [] [
      ⟨some 9, .ld true 7 (.t 4), none⟩,
      ⟨some 10, .fad (.t 3) 1, none⟩,
      ⟨none, .st 7 (.t 10) (.t 9), none⟩] none)
    (.seq (.reg [2, 3] [] [
       ⟨some 11, .bsl 1 [] 0 [], none⟩,
       ⟨some 12, .fad (.t 1) 9, none⟩,
       ⟨some 13, .ld false 1 (.t 12), none⟩,
       ⟨some 14, .app 1 8 (.t 11) (.t 13), none⟩,
       ⟨some 15, .fad (.t 3) 9, none⟩,
       ⟨none, .st 1 (.t 15) (.t 14), none⟩] none)
     (.seq (.reg [2] [] [
        ⟨some 16, .ld true 10 (.t 3), none⟩,
        ⟨none, .st 10 (.t 2) (.t 16), none⟩] none)
      (.ret))))))

def pf353 : PF := ⟨[.b 2 10 true], [], pb353⟩

-- loop.example/g00496/spec.l12Draw
def pl354_0 : PC :=
.seq (.seq (.reg [0, 1, 4, 5, 7, 8, 41] [] [
                  ⟨some 38, .mv (.t 8), none⟩,
                  ⟨some 39, .mv (.t 1), none⟩,
                  ⟨some 40, .len (.t 39), none⟩,
                  ⟨some 41, .bin .lss (.t 38) (.t 40), none⟩] none)
                (.cond (.t 41) (.skip)
                 (.exit 3)))
               (.seq (.blk 4 (.seq (.reg [0, 1, 4, 5, 7, 8, 48] [] [
                    ⟨some 44, .mv (.t 1), none⟩,
                    ⟨some 45, .mv (.t 8), none⟩,
                    ⟨some 46, .iad 1 (.t 44) (.t 45), none⟩,
                    ⟨some 47, .ld false 1 (.t 46), none⟩,
                    ⟨some 48, .bin .eql (.t 47) (.c (.v false (.int .i64 1))), none⟩] none)
                  (.cond (.t 48) (.reg [0, 1, 4, 5, 7, 8] [] [
                     ⟨some 49, .mv (.t 8), none⟩,
                     ⟨some 7, .mv (.t 49), none⟩] none)
                   (.skip))))
                (.reg [0, 1, 4, 5, 7, 8] [] [
                  ⟨some 42, .mv (.t 8), none⟩,
                  ⟨some 43, .bin .add (.t 42) (.c (.v false (.int .i64 1))), none⟩,
                  ⟨some 8, .mv (.t 43), none⟩] none))

def pl354_1 : PC :=
.seq (.seq (.reg [0, 1, 4, 5, 6, 24] [] [
              ⟨some 23, .mv (.t 6), none⟩,
              ⟨some 24, .bin .gtr (.t 23) (.c (.v false (.int .i64 0))), none⟩] none)
            (.cond (.t 24) (.skip)
             (.exit 1)))
           (.seq (.blk 2 (.reg [0, 1, 4, 5, 6] [] [
               ⟨some 27, .fad (.t 5) 9, none⟩,
               ⟨some 28, .ld false 1 (.t 27), none⟩,
               ⟨some 29, .mv (.t 0), none⟩,
               ⟨some 30, .mv (.t 1), none⟩,
               ⟨some 31, .len (.t 30), none⟩,
               ⟨some 32, .call 375 [0] [(.t 29), (.t 31)], none⟩,
               ⟨some 33, .bsl 1 [.int .i64 0] 1 [(0, (.t 32))], none⟩,
               ⟨some 34, .app 1 8 (.t 28) (.t 33), none⟩,
               ⟨some 35, .fad (.t 5) 9, none⟩,
               ⟨none, .st 1 (.t 35) (.t 34), none⟩] (some [(1, 5), (1, 6)])))
            (.reg [0, 1, 4, 5, 6] [] [
              ⟨some 25, .mv (.t 6), none⟩,
              ⟨some 26, .bin .sub (.t 25) (.c (.v false (.int .i64 1))), none⟩,
              ⟨some 6, .mv (.t 26), none⟩] none))

def pb354 : PC :=
.seq (.reg [0, 1, 4] [] [
   ⟨some 4, .alloc [(.v false (.int .i64 0)), (.v false (.int .i64 0)), (.v false (.int .i64 0)), (.v false (.int .i64 0)), (.v false (.int .i64 0)), (.v false (.int .i64 0)), (.v false (.str ⟨#[]⟩)), (.nl 7), (.v false (.int .i64 0)), (.nl 1)], none⟩] none)
 (.seq (.reg [0, 1, 4, 5] [] [
    ⟨some 9, .mv (.t 0), none⟩,
    ⟨some 10, .call 375 [0] [(.t 9), (.c (.v false (.int .i64 5)))], none⟩,
    ⟨some 11, .bin .add (.c (.v false (.int .i64 1))) (.t 10), none⟩,
    ⟨some 12, .mv (.t 0), none⟩,
    ⟨some 13, .mv (.t 1), none⟩,
    ⟨some 14, .call 352 [0] [(.t 12), (.t 13)], none⟩,
    ⟨some 15, .build [(.v false (.int .i64 0)), (.v false (.int .i64 0)), (.v false (.int .i64 0)), (.v false (.int .i64 0)), (.v false (.int .i64 0)), (.v false (.int .i64 0)), (.v false (.str ⟨#[]⟩)), (.nl 7), (.v false (.int .i64 0)), (.nl 1)] [(0, 1, (.t 11)), (1, 7, (.t 14))], none⟩,
    ⟨some 5, .alloc [(.v false (.int .i64 0)), (.v false (.int .i64 0)), (.v false (.int .i64 0)), (.v false (.int .i64 0)), (.v false (.int .i64 0)), (.v false (.int .i64 0)), (.v false (.str ⟨#[]⟩)), (.nl 7), (.v false (.int .i64 0)), (.nl 1)], none⟩,
    ⟨none, .st 10 (.t 5) (.t 15), none⟩] none)
  (.seq (.seq (.reg [0, 1, 4, 5, 17] [] [
      ⟨some 16, .fad (.t 5) 0, none⟩,
      ⟨some 17, .ld false 1 (.t 16), none⟩] none)
    (.blk 0 (.seq (.reg [0, 1, 4, 5, 17, 18] [] [
        ⟨some 19, .bin .eql (.t 17) (.c (.v false (.int .i64 1))), none⟩,
        ⟨some 18, .mv (.t 19), none⟩] none)
      (.cond (.t 18) (.seq (.reg [0, 1, 4, 5, 6] [] [
          ⟨some 20, .mv (.t 0), none⟩,
          ⟨some 21, .call 375 [0] [(.t 20), (.c (.v false (.int .i64 2)))], none⟩,
          ⟨some 22, .bin .add (.c (.v false (.int .i64 1))) (.t 21), none⟩,
          ⟨some 6, .mv (.t 22), none⟩] none)
        (.blk 1 (.loop pl354_1)))
       (.seq (.reg [0, 1, 4, 5, 17, 36] [] [
          ⟨some 37, .bin .eql (.t 17) (.c (.v false (.int .i64 3))), none⟩,
          ⟨some 36, .mv (.t 37), none⟩] none)
        (.cond (.t 36) (.seq (.reg [0, 1, 4, 5, 7] [] [
            ⟨some 7, .mv (.c (.v false (.int .i64 (-1)))), none⟩] none)
          (.seq (.seq (.reg [0, 1, 4, 5, 7, 8] [] [
              ⟨some 8, .mv (.c (.v false (.int .i64 0))), none⟩] none)
            (.blk 3 (.loop pl354_0)))
           (.seq (.reg [0, 4, 5, 7, 51] [] [
              ⟨some 50, .mv (.t 7), none⟩,
              ⟨some 51, .bin .lss (.t 50) (.c (.v false (.int .i64 0))), none⟩] none)
            (.cond (.t 51) (.reg [0, 4, 5] [] [
               ⟨some 52, .fad (.t 5) 0, none⟩,
               ⟨none, .st 1 (.t 52) (.c (.v false (.int .i64 2))), none⟩] none)
             (.reg [0, 4, 5] [] [
               ⟨some 53, .mv (.t 7), none⟩,
               ⟨some 54, .fad (.t 5) 8, none⟩,
               ⟨none, .st 1 (.t 54) (.t 53), none⟩] none)))))
         (.seq (.seq (.reg [0, 1, 4, 5, 17, 55] [] [
             ⟨some 56, .bin .eql (.t 17) (.c (.v false (.int .i64 4))), none⟩,
             ⟨some 55, .mv (.t 56), none⟩] none)
           (.cond (.t 55) (.skip)
            (.reg [0, 1, 4, 5, 55] [] [
              ⟨some 57, .bin .eql (.t 17) (.c (.v false (.int .i64 5))), none⟩,
              ⟨some 55, .mv (.t 57), none⟩] none)))
          (.cond (.t 55) (.reg [0, 4, 5] [] [
             ⟨some 58, .mv (.t 0), none⟩,
             ⟨some 59, .mv (.t 1), none⟩,
             ⟨some 60, .len (.t 59), none⟩,
             ⟨some 61, .call 375 [0] [(.t 58), (.t 60)], none⟩,
             ⟨some 62, .fad (.t 5) 8, none⟩,
             ⟨none, .st 1 (.t 62) (.t 61), none⟩] none)
           (.skip)))))))))
   (.seq (.reg [0, 4] [] [
      ⟨some 63, .ld true 10 (.t 5), none⟩,
      ⟨none, .st 10 (.t 4) (.t 63), none⟩] none)
    (.ret))))

def pf354 : PF := ⟨[.b 4 10 true], [0], pb354⟩

-- loop.example/g00496/spec.l12Pred
def pl355_0 : PC :=
.seq (.seq (.reg [1, 2, 3, 4, 13] [] [
           ⟨some 9, .mv (.t 4), none⟩,
           ⟨some 10, .fad (.t 1) 6, none⟩,
           ⟨some 11, .ld false 1 (.t 10), none⟩,
           ⟨some 12, .len (.t 11), none⟩,
           ⟨some 13, .bin .lss (.t 9) (.t 12), none⟩] none)
         (.cond (.t 13) (.skip)
          (.exit 0)))
        (.seq (.blk 1 (.seq (.reg [1, 2, 3, 4, 5] [] [
             ⟨some 16, .fad (.t 1) 6, none⟩,
             ⟨some 17, .ld false 1 (.t 16), none⟩,
             ⟨some 18, .mv (.t 4), none⟩,
             ⟨some 19, .iad 7 (.t 17) (.t 18), none⟩,
             ⟨some 20, .ld true 7 (.t 19), none⟩,
             ⟨some 21, .call 355 [] [(.t 20)], none⟩,
             ⟨some 5, .alloc [(.v false (.int .i64 0)), (.v false (.int .i64 0)), (.v false (.int .i64 0)), (.v false (.int .i64 0)), (.v false (.int .i64 0)), (.v false (.str ⟨#[]⟩)), (.nl 7)], none⟩,
             ⟨none, .st 7 (.t 5) (.t 21), none⟩] none)
           (.reg [1, 2, 3, 4] [] [
             ⟨some 22, .fad (.t 3) 6, none⟩,
             ⟨some 23, .ld false 1 (.t 22), none⟩,
             ⟨some 24, .ld true 7 (.t 5), none⟩,
             ⟨some 25, .bsl 7 [.int .i64 0, .int .i64 0, .int .i64 0, .int .i64 0, .int .i64 0, .str ⟨#[]⟩, .sl 7 []] 1 [(0, (.t 24))], none⟩,
             ⟨some 26, .app 7 80 (.t 23) (.t 25), none⟩,
             ⟨some 27, .fad (.t 3) 6, none⟩,
             ⟨none, .st 1 (.t 27) (.t 26), none⟩] none)))
         (.reg [1, 2, 3, 4] [] [
           ⟨some 14, .mv (.t 4), none⟩,
           ⟨some 15, .bin .add (.t 14) (.c (.v false (.int .i64 1))), none⟩,
           ⟨some 4, .mv (.t 15), none⟩] none))

def pb355 : PC :=
.seq (.reg [1, 2] [] [
   ⟨some 1, .box 7 (.t 0), none⟩,
   ⟨some 2, .alloc [(.v false (.int .i64 0)), (.v false (.int .i64 0)), (.v false (.int .i64 0)), (.v false (.int .i64 0)), (.v false (.int .i64 0)), (.v false (.str ⟨#[]⟩)), (.nl 7)], none⟩] none)
 (.seq (.reg [1, 2, 3] [] [
    ⟨some 6, .ld true 7 (.t 1), none⟩,
    ⟨some 3, .alloc [(.v false (.int .i64 0)), (.v false (.int .i64 0)), (.v false (.int .i64 0)), (.v false (.int .i64 0)), (.v false (.int .i64 0)), (.v false (.str ⟨#[]⟩)), (.nl 7)], none⟩,
    ⟨none, .st 7 (.t 3) (.t 6), none⟩] none)
  (.seq (.reg [1, 2, 3] [] [
     ⟨some 7, .bsl 7 [] 0 [], none⟩,
     ⟨some 8, .fad (.t 3) 6, none⟩,
     ⟨none, .st 1 (.t 8) (.t 7), none⟩] none)
   (.seq (.seq (.reg [1, 2, 3, 4] [] [
       ⟨some 4, .mv (.c (.v false (.int .i64 0))), none⟩] none)
     (.blk 0 (.loop pl355_0)))
    (.seq (.reg [2] [] [
       ⟨some 28, .ld true 7 (.t 3), none⟩,
       ⟨none, .st 7 (.t 2) (.t 28), none⟩] none)
     (.ret)))))

def pf355 : PF := ⟨[.b 2 7 true], [], pb355⟩

-- loop.example/g00496/spec.l12Result
def pb356 : PC :=
.seq (.reg [1, 2] [] [
   ⟨some 1, .box 6 (.t 0), none⟩,
   ⟨some 2, .alloc [(.nl 2), (.v false (.int .i64 0)), (.v false (.bool false)), (.v false (.int .i64 0)), (.v false (.int .i64 0)), (.v false (.str ⟨#[]⟩))], none⟩] none)
 (.seq (.reg [1, 2, 3] [] [
    ⟨some 4, .ld true 6 (.t 1), none⟩,
    ⟨some 3, .alloc [(.nl 2), (.v false (.int .i64 0)), (.v false (.bool false)), (.v false (.int .i64 0)), (.v false (.int .i64 0)), (.v false (.str ⟨#[]⟩))], none⟩,
    ⟨none, .st 6 (.t 3) (.t 4), none⟩] none)
  (.seq (.reg [2, 3] [] [
     ⟨some 5, .fad (.t 1) 0, none⟩,
     ⟨some 6, .ld false 1 (.t 5), none⟩,
     ⟨some 7, .call 397 [] [(.t 6)], none⟩,
     ⟨some 8, .fad (.t 3) 0, none⟩,
     ⟨none, .st 1 (.t 8) (.t 7), none⟩] none)
   (.seq (.reg [2] [] [
      ⟨some 9, .ld true 6 (.t 3), none⟩,
      ⟨none, .st 6 (.t 2) (.t 9), none⟩] none)
    (.ret))))

def pf356 : PF := ⟨[.b 2 6 true], [], pb356⟩

-- loop.example/g00496/spec.l1Below
def pb375 : PC :=
.seq (.reg [0, 1] [] [
   ⟨some 4, .mv (.c (.v false (.int .i64 0))), none⟩] none)
 (.seq (.seq (.reg [0, 1, 9] [] [
     ⟨some 8, .mv (.t 1), none⟩,
     ⟨some 9, .bin .leq (.t 8) (.c (.v false (.int .i64 0))), none⟩] none)
   (.cond (.t 9) (.seq (.reg [0, 4] [] [
       ⟨some 4, .mv (.c (.v false (.int .i64 0))), none⟩] none)
     (.ret))
    (.skip)))
  (.seq (.seq (.reg [0, 1, 11] [] [
      ⟨some 10, .mv (.t 1), none⟩,
      ⟨some 11, .bin .leq (.t 10) (.c (.v false (.int .i64 256))), none⟩] none)
    (.cond (.t 11) (.seq (.reg [0, 4] [] [
        ⟨some 12, .mv (.t 0), none⟩,
        ⟨some 13, .call 376 [0] [(.t 12)], none⟩,
        ⟨some 14, .mv (.t 1), none⟩,
        ⟨some 15, .bin .rem (.t 13) (.t 14), none⟩,
        ⟨some 4, .mv (.t 15), none⟩] none)
      (.ret))
     (.skip)))
   (.seq (.reg [0, 1, 5] [(17, 5)] [
      ⟨some 16, .mv (.t 0), none⟩,
      ⟨some 17, .call 376 [0] [(.t 16)], none⟩,
      ⟨some 5, .mv (.t 17), none⟩] none)
    (.seq (.reg [0, 1, 5, 6] [(19, 6)] [
       ⟨some 18, .mv (.t 0), none⟩,
       ⟨some 19, .call 376 [0] [(.t 18)], none⟩,
       ⟨some 6, .mv (.t 19), none⟩] none)
     (.seq (.reg [0, 1, 5, 6, 7] [(21, 7)] [
        ⟨some 20, .mv (.t 0), none⟩,
        ⟨some 21, .call 376 [0] [(.t 20)], none⟩,
        ⟨some 7, .mv (.t 21), none⟩] none)
      (.seq (.reg [0, 4] [] [
         ⟨some 22, .mv (.t 5), none⟩,
         ⟨some 23, .bin .mul (.t 22) (.c (.v false (.int .i64 65536))), none⟩,
         ⟨some 24, .mv (.t 6), none⟩,
         ⟨some 25, .bin .mul (.t 24) (.c (.v false (.int .i64 256))), none⟩,
         ⟨some 26, .bin .add (.t 23) (.t 25), none⟩,
         ⟨some 27, .mv (.t 7), none⟩,
         ⟨some 28, .bin .add (.t 26) (.t 27), none⟩,
         ⟨some 29, .mv (.t 1), none⟩,
         ⟨some 30, .bin .rem (.t 28) (.t 29), none⟩,
         ⟨some 4, .mv (.t 30), none⟩] none)
       (.ret)))))))

def pf375 : PF := ⟨[.s 4], [0], pb375⟩

-- loop.example/g00496/spec.l1Byte
def pb376 : PC :=
.seq (.reg [0] [] [
   ⟨some 2, .mv (.c (.v false (.int .i64 0))), none⟩] none)
 (.seq (.reg [0] [] [
    ⟨some 4, .mv (.t 0), none⟩,
    ⟨some 5, .mv (.t 0), none⟩,
    ⟨some 6, .nck (.t 5), none⟩,
    ⟨some 7, .fad (.t 6) 2, none⟩,
    ⟨some 8, .ld false 1 (.t 7), none⟩,
    ⟨some 9, .bin .mul (.t 8) (.c (.v false (.int .i64 6364136223846793005))), none⟩,
    ⟨some 10, .bin .add (.t 9) (.c (.v false (.int .i64 1442695040888963407))), none⟩,
    ⟨some 11, .nck (.t 4), none⟩,
    ⟨some 12, .fad (.t 11) 2, none⟩,
    ⟨none, .st 1 (.t 12) (.t 10), none⟩] none)
  (.seq (.reg [0, 3] [] [
     ⟨some 13, .mv (.t 0), none⟩,
     ⟨some 14, .nck (.t 13), none⟩,
     ⟨some 15, .fad (.t 14) 2, none⟩,
     ⟨some 16, .ld false 1 (.t 15), none⟩,
     ⟨some 17, .bin .shr (.t 16) (.c (.v false (.int .u64 33))), none⟩,
     ⟨some 18, .mv (.t 0), none⟩,
     ⟨some 19, .nck (.t 18), none⟩,
     ⟨some 20, .fad (.t 19) 2, none⟩,
     ⟨some 21, .ld false 1 (.t 20), none⟩,
     ⟨some 22, .bin .shr (.t 21) (.c (.v false (.int .u64 47))), none⟩,
     ⟨some 23, .bin .xor (.t 17) (.t 22), none⟩,
     ⟨some 24, .bin .and (.t 23) (.c (.v false (.int .i64 255))), none⟩,
     ⟨some 3, .mv (.t 24), none⟩] (some []))
   (.seq (.seq (.reg [0, 3, 34] [] [
       ⟨some 25, .mv (.t 0), none⟩,
       ⟨some 26, .nck (.t 25), none⟩,
       ⟨some 27, .fad (.t 26) 1, none⟩,
       ⟨some 28, .ld false 1 (.t 27), none⟩,
       ⟨some 29, .mv (.t 0), none⟩,
       ⟨some 30, .nck (.t 29), none⟩,
       ⟨some 31, .fad (.t 30) 0, none⟩,
       ⟨some 32, .ld false 1 (.t 31), none⟩,
       ⟨some 33, .len (.t 32), none⟩,
       ⟨some 34, .bin .lss (.t 28) (.t 33), none⟩] (some []))
     (.cond (.t 34) (.seq (.reg [0, 3] [] [
         ⟨some 35, .mv (.t 3), none⟩,
         ⟨some 36, .mv (.t 0), none⟩,
         ⟨some 37, .nck (.t 36), none⟩,
         ⟨some 38, .fad (.t 37) 0, none⟩,
         ⟨some 39, .ld false 1 (.t 38), none⟩,
         ⟨some 40, .mv (.t 0), none⟩,
         ⟨some 41, .nck (.t 40), none⟩,
         ⟨some 42, .fad (.t 41) 1, none⟩,
         ⟨some 43, .ld false 1 (.t 42), none⟩,
         ⟨some 44, .iad 1 (.t 39) (.t 43), none⟩,
         ⟨some 45, .ld false 1 (.t 44), none⟩,
         ⟨some 46, .cvi .i64 (.t 45), none⟩,
         ⟨some 47, .bin .add (.t 35) (.t 46), none⟩,
         ⟨some 48, .bin .and (.t 47) (.c (.v false (.int .i64 255))), none⟩,
         ⟨some 3, .mv (.t 48), none⟩] (some []))
       (.reg [0, 3] [] [
         ⟨some 49, .mv (.t 0), none⟩,
         ⟨some 50, .mv (.t 0), none⟩,
         ⟨some 51, .nck (.t 50), none⟩,
         ⟨some 52, .fad (.t 51) 1, none⟩,
         ⟨some 53, .ld false 1 (.t 52), none⟩,
         ⟨some 54, .bin .add (.t 53) (.c (.v false (.int .i64 1))), none⟩,
         ⟨some 55, .nck (.t 49), none⟩,
         ⟨some 56, .fad (.t 55) 1, none⟩,
         ⟨none, .st 1 (.t 56) (.t 54), none⟩] none))
      (.skip)))
    (.seq (.reg [0, 2] [] [
       ⟨some 57, .mv (.t 3), none⟩,
       ⟨some 2, .mv (.t 57), none⟩] none)
     (.ret)))))

def pf376 : PF := ⟨[.s 2], [0], pb376⟩

-- loop.example/g00496/spec.l1In
def pb377 : PC :=
.seq (.reg [0, 1, 2] [] [
   ⟨some 6, .mv (.c (.v false (.bool false))), none⟩] none)
 (.seq (.reg [6] [] [
    ⟨some 7, .mv (.t 0), none⟩,
    ⟨some 8, .mv (.t 1), none⟩,
    ⟨some 9, .bin .geq (.t 7) (.t 8), none⟩,
    ⟨some 10, .mv (.t 9), none⟩,
    ⟨some 11, .mv (.t 0), some (10, true)⟩,
    ⟨some 12, .mv (.t 2), some (10, true)⟩,
    ⟨some 13, .bin .leq (.t 11) (.t 12), some (10, true)⟩,
    ⟨some 14, .pick (.t 10) (.t 13) (.c (.v false (.bool false))), none⟩,
    ⟨some 6, .mv (.t 14), none⟩] none)
  (.ret))

def pf377 : PF := ⟨[.s 6], [], pb377⟩

-- loop.example/g00496/spec.l1Int
def pb378 : PC :=
.seq (.reg [0, 1] [] [
   ⟨some 4, .mv (.c (.v false (.int .i64 0))), none⟩] none)
 (.seq (.reg [0, 4] [(9, 4)] [
    ⟨some 5, .mv (.t 1), none⟩,
    ⟨some 6, .mv (.t 0), none⟩,
    ⟨some 7, .mv (.t 1), none⟩,
    ⟨some 8, .len (.t 7), none⟩,
    ⟨some 9, .call 375 [0] [(.t 6), (.t 8)], none⟩,
    ⟨some 10, .iad 1 (.t 5) (.t 9), none⟩,
    ⟨some 11, .ld false 1 (.t 10), none⟩,
    ⟨some 4, .mv (.t 11), none⟩] none)
  (.ret))

def pf378 : PF := ⟨[.s 4], [0], pb378⟩

-- loop.example/g00496/spec.l1New
def pl379_0 : PC :=
.seq (.seq (.reg [0, 3, 4, 15] [] [
          ⟨some 8, .mv (.t 4), none⟩,
          ⟨some 9, .mv (.t 0), none⟩,
          ⟨some 10, .len (.t 9), none⟩,
          ⟨some 11, .bin .lss (.t 8) (.t 10), none⟩,
          ⟨some 12, .mv (.t 11), none⟩,
          ⟨some 13, .mv (.t 4), some (12, true)⟩,
          ⟨some 14, .bin .lss (.t 13) (.c (.v false (.int .i64 4000))), some (12, true)⟩,
          ⟨some 15, .pick (.t 12) (.t 14) (.c (.v false (.bool false))), none⟩] none)
        (.cond (.t 15) (.skip)
         (.exit 0)))
       (.seq (.blk 1 (.reg [0, 3, 4] [] [
           ⟨some 18, .mv (.t 3), none⟩,
           ⟨some 19, .bin .mul (.t 18) (.c (.v false (.int .i64 137))), none⟩,
           ⟨some 20, .mv (.t 0), none⟩,
           ⟨some 21, .mv (.t 4), none⟩,
           ⟨some 22, .iad 1 (.t 20) (.t 21), none⟩,
           ⟨some 23, .ld false 1 (.t 22), none⟩,
           ⟨some 24, .cvi .i64 (.t 23), none⟩,
           ⟨some 25, .bin .add (.t 19) (.t 24), none⟩,
           ⟨some 26, .bin .add (.t 25) (.c (.v false (.int .i64 11))), none⟩,
           ⟨some 27, .bin .and (.t 26) (.c (.v false (.int .i64 1073741823))), none⟩,
           ⟨some 3, .mv (.t 27), none⟩] none))
        (.reg [0, 3, 4] [] [
          ⟨some 16, .mv (.t 4), none⟩,
          ⟨some 17, .bin .add (.t 16) (.c (.v false (.int .i64 1))), none⟩,
          ⟨some 4, .mv (.t 17), none⟩] none))

def pb379 : PC :=
.seq (.reg [0] [] [
   ⟨some 2, .mv (.c (.un)), none⟩] none)
 (.seq (.reg [0, 3] [] [
    ⟨some 5, .mv (.t 0), none⟩,
    ⟨some 6, .len (.t 5), none⟩,
    ⟨some 7, .bin .add (.c (.v false (.int .i64 154242))) (.t 6), none⟩,
    ⟨some 3, .mv (.t 7), none⟩] none)
  (.seq (.seq (.reg [0, 3, 4] [] [
      ⟨some 4, .mv (.c (.v false (.int .i64 0))), none⟩] none)
    (.blk 0 (.loop pl379_0)))
   (.seq (.reg [2] [(31, 2)] [
      ⟨some 28, .mv (.t 0), none⟩,
      ⟨some 29, .mv (.t 3), none⟩,
      ⟨some 30, .build [(.nl 1), (.v false (.int .i64 0)), (.v false (.int .i64 0))] [(0, 1, (.t 28)), (2, 1, (.t 29))], none⟩,
      ⟨some 31, .box 3 (.t 30), none⟩,
      ⟨some 2, .mv (.t 31), none⟩] none)
    (.ret))))

def pf379 : PF := ⟨[.s 2], [], pb379⟩

-- loop.example/g00496/spec.l1Num
def pb380 : PC :=
.seq (.reg [0] [] [
   ⟨some 2, .mv (.c (.v false (.int .i64 0))), none⟩] none)
 (.seq (.seq (.reg [0, 4] [] [
     ⟨some 3, .mv (.t 0), none⟩,
     ⟨some 4, .call 375 [0] [(.t 3), (.c (.v false (.int .i64 5)))], none⟩] none)
   (.blk 0 (.seq (.reg [0, 4, 5] [] [
       ⟨some 6, .bin .eql (.t 4) (.c (.v false (.int .i64 0))), none⟩,
       ⟨some 5, .mv (.t 6), none⟩] none)
     (.cond (.t 5) (.seq (.reg [0, 2] [] [
         ⟨some 7, .mv (.t 0), none⟩,
         ⟨some 8, .call 375 [0] [(.t 7), (.c (.v false (.int .i64 300)))], none⟩,
         ⟨some 9, .bin .sub (.t 8) (.c (.v false (.int .i64 150))), none⟩,
         ⟨some 2, .mv (.t 9), none⟩] none)
       (.ret))
      (.seq (.reg [0, 4, 10] [] [
         ⟨some 11, .bin .eql (.t 4) (.c (.v false (.int .i64 1))), none⟩,
         ⟨some 10, .mv (.t 11), none⟩] none)
       (.cond (.t 10) (.seq (.reg [0, 2] [(14, 2)] [
           ⟨some 12, .mv (.t 0), none⟩,
           ⟨some 13, .bsl 1 [.int .i64 0, .int .i64 0, .int .i64 0, .int .i64 0, .int .i64 0, .int .i64 0, .int .i64 0, .int .i64 0, .int .i64 0, .int .i64 0, .int .i64 0, .int .i64 0] 12 [(0, (.c (.v false (.int .i64 0)))), (1, (.c (.v false (.int .i64 (-1))))), (2, (.c (.v false (.int .i64 1)))), (3, (.c (.v false (.int .i64 63)))), (4, (.c (.v false (.int .i64 64)))), (5, (.c (.v false (.int .i64 (-64))))), (6, (.c (.v false (.int .i64 (-65))))), (7, (.c (.v false (.int .i64 8191)))), (8, (.c (.v false (.int .i64 8192)))), (9, (.c (.v false (.int .i64 1000000000)))), (10, (.c (.v false (.int .i64 (-1000000000))))), (11, (.c (.v false (.int .i64 999999999))))], none⟩,
           ⟨some 14, .call 378 [0] [(.t 12), (.t 13)], none⟩,
           ⟨some 2, .mv (.t 14), none⟩] none)
         (.ret))
        (.seq (.reg [0, 15] [] [
           ⟨some 16, .bin .eql (.t 4) (.c (.v false (.int .i64 2))), none⟩,
           ⟨some 15, .mv (.t 16), none⟩] none)
         (.cond (.t 15) (.seq (.reg [0, 2] [] [
             ⟨some 17, .mv (.t 0), none⟩,
             ⟨some 18, .call 375 [0] [(.t 17), (.c (.v false (.int .i64 30000)))], none⟩,
             ⟨some 19, .mv (.t 0), none⟩,
             ⟨some 20, .call 375 [0] [(.t 19), (.c (.v false (.int .i64 30000)))], none⟩,
             ⟨some 21, .bin .sub (.t 20) (.c (.v false (.int .i64 15000))), none⟩,
             ⟨some 22, .bin .mul (.t 18) (.t 21), none⟩,
             ⟨some 2, .mv (.t 22), none⟩] none)
           (.ret))
          (.skip)))))))))
  (.seq (.reg [0, 2] [] [
     ⟨some 23, .mv (.t 0), none⟩,
     ⟨some 24, .call 375 [0] [(.t 23), (.c (.v false (.int .i64 20)))], none⟩,
     ⟨some 25, .bin .sub (.t 24) (.c (.v false (.int .i64 5))), none⟩,
     ⟨some 2, .mv (.t 25), none⟩] none)
   (.ret)))

def pf380 : PF := ⟨[.s 2], [0], pb380⟩

-- loop.example/g00496/spec.l1Once
def pb382 : PC :=
.seq (.reg [0, 1] [] [
   ⟨some 4, .mv (.c (.v false (.bool false))), none⟩] none)
 (.seq (.reg [0, 4] [] [
    ⟨some 5, .mv (.t 0), none⟩,
    ⟨some 6, .mv (.t 1), none⟩,
    ⟨some 7, .call 375 [0] [(.t 5), (.t 6)], none⟩,
    ⟨some 8, .bin .eql (.t 7) (.c (.v false (.int .i64 0))), none⟩,
    ⟨some 4, .mv (.t 8), none⟩] none)
  (.ret))

def pf382 : PF := ⟨[.s 4], [0], pb382⟩

-- loop.example/g00496/spec.l1Right
def pb384 : PC :=
.seq (.reg [0] [] [
   ⟨some 2, .mv (.c (.v false (.bool false))), none⟩] none)
 (.seq (.reg [2] [(4, 2)] [
    ⟨some 3, .mv (.t 0), none⟩,
    ⟨some 4, .call 377 [] [(.t 3), (.c (.v false (.int .i64 (-1000000000)))), (.c (.v false (.int .i64 1000000000)))], none⟩,
    ⟨some 2, .mv (.t 4), none⟩] none)
  (.ret))

def pf384 : PF := ⟨[.s 2], [], pb384⟩

-- loop.example/g00496/spec.l1Str
def pb385 : PC :=
.seq (.reg [0, 1] [] [
   ⟨some 4, .mv (.c (.v false (.str ⟨#[]⟩))), none⟩] none)
 (.seq (.reg [0, 4] [(9, 4)] [
    ⟨some 5, .mv (.t 1), none⟩,
    ⟨some 6, .mv (.t 0), none⟩,
    ⟨some 7, .mv (.t 1), none⟩,
    ⟨some 8, .len (.t 7), none⟩,
    ⟨some 9, .call 375 [0] [(.t 6), (.t 8)], none⟩,
    ⟨some 10, .iad 1 (.t 5) (.t 9), none⟩,
    ⟨some 11, .ld false 1 (.t 10), none⟩,
    ⟨some 4, .mv (.t 11), none⟩] none)
  (.ret))

def pf385 : PF := ⟨[.s 4], [0], pb385⟩

-- loop.example/g00496/spec.l20Any
def pb386 : PC :=
.seq (.reg [0, 2] [] [
   ⟨some 2, .alloc [(.v false (.int .i64 0)), (.v false (.int .i64 0)), (.nl 3), (.v false (.int .i64 0)), (.v false (.int .i64 0)), (.v false (.int .i64 0)), (.v false (.int .i64 0)), (.v false (.int .i64 0)), (.v false (.int .i64 0)), (.v false (.int .i64 0)), (.v false (.str ⟨#[]⟩)), (.nl 7), (.v false (.int .i64 0)), (.nl 1), (.nl 2), (.v false (.int .i64 0)), (.v false (.bool false)), (.v false (.int .i64 0)), (.v false (.int .i64 0)), (.v false (.str ⟨#[]⟩)), (.v false (.int .i64 0)), (.v false (.int .i64 0)), (.v false (.int .i64 0)), (.v false (.int .i64 0)), (.v false (.int .i64 0))], none⟩] none)
 (.seq (.reg [0, 2, 3] [] [
    ⟨some 4, .mv (.t 0), none⟩,
    ⟨some 5, .call 388 [0] [(.t 4)], none⟩,
    ⟨some 3, .alloc [(.v false (.int .i64 0)), (.v false (.int .i64 0)), (.nl 3), (.v false (.int .i64 0)), (.v false (.int .i64 0)), (.v false (.int .i64 0)), (.v false (.int .i64 0)), (.v false (.int .i64 0)), (.v false (.int .i64 0)), (.v false (.int .i64 0)), (.v false (.str ⟨#[]⟩)), (.nl 7), (.v false (.int .i64 0)), (.nl 1), (.nl 2), (.v false (.int .i64 0)), (.v false (.bool false)), (.v false (.int .i64 0)), (.v false (.int .i64 0)), (.v false (.str ⟨#[]⟩)), (.v false (.int .i64 0)), (.v false (.int .i64 0)), (.v false (.int .i64 0)), (.v false (.int .i64 0)), (.v false (.int .i64 0))], none⟩,
    ⟨none, .st 25 (.t 3) (.t 5), none⟩] none)
  (.seq (.seq (.reg [0, 2, 3, 7] [] [
      ⟨some 6, .mv (.t 0), none⟩,
      ⟨some 7, .call 375 [0] [(.t 6), (.c (.v false (.int .i64 14)))], none⟩] none)
    (.blk 0 (.seq (.reg [0, 2, 3, 7, 8] [] [
        ⟨some 9, .bin .eql (.t 7) (.c (.v false (.int .i64 0))), none⟩,
        ⟨some 8, .mv (.t 9), none⟩] none)
      (.cond (.t 8) (.reg [0, 2, 3] [] [
         ⟨some 10, .mv (.t 0), none⟩,
         ⟨some 11, .bsl 1 [.int .i64 0, .int .i64 0, .int .i64 0] 3 [(0, (.c (.v false (.int .i64 0)))), (1, (.c (.v false (.int .i64 5)))), (2, (.c (.v false (.int .i64 (-1)))))], none⟩,
         ⟨some 12, .call 378 [0] [(.t 10), (.t 11)], none⟩,
         ⟨some 13, .fad (.t 3) 0, none⟩,
         ⟨none, .st 1 (.t 13) (.t 12), none⟩] none)
       (.seq (.reg [0, 2, 3, 7, 14] [] [
          ⟨some 15, .bin .eql (.t 7) (.c (.v false (.int .i64 1))), none⟩,
          ⟨some 14, .mv (.t 15), none⟩] none)
        (.cond (.t 14) (.reg [0, 2, 3] [] [
           ⟨some 16, .mv (.t 0), none⟩,
           ⟨some 17, .bsl 1 [.int .i64 0, .int .i64 0] 2 [(0, (.c (.v false (.int .i64 (-1))))), (1, (.c (.v false (.int .i64 5))))], none⟩,
           ⟨some 18, .call 378 [0] [(.t 16), (.t 17)], none⟩,
           ⟨some 19, .fad (.t 3) 1, none⟩,
           ⟨none, .st 1 (.t 19) (.t 18), none⟩] none)
         (.seq (.reg [0, 2, 3, 7, 20] [] [
            ⟨some 21, .bin .eql (.t 7) (.c (.v false (.int .i64 2))), none⟩,
            ⟨some 20, .mv (.t 21), none⟩] none)
          (.cond (.t 20) (.reg [0, 2, 3] [] [
             ⟨some 22, .mv (.t 0), none⟩,
             ⟨some 23, .bsl 1 [.int .i64 0, .int .i64 0] 2 [(0, (.c (.v false (.int .i64 (-1))))), (1, (.c (.v false (.int .i64 6))))], none⟩,
             ⟨some 24, .call 378 [0] [(.t 22), (.t 23)], none⟩,
             ⟨some 25, .fad (.t 3) 20, none⟩,
             ⟨none, .st 1 (.t 25) (.t 24), none⟩] none)
           (.seq (.reg [0, 2, 3, 7, 26] [] [
              ⟨some 27, .bin .eql (.t 7) (.c (.v false (.int .i64 3))), none⟩,
              ⟨some 26, .mv (.t 27), none⟩] none)
            (.cond (.t 26) (.reg [0, 2, 3] [] [
               ⟨some 28, .mv (.t 0), none⟩,
               ⟨some 29, .bsl 1 [.int .i64 0, .int .i64 0, .int .i64 0] 3 [(0, (.c (.v false (.int .i64 (-1))))), (1, (.c (.v false (.int .i64 0)))), (2, (.c (.v false (.int .i64 (-2)))))], none⟩,
               ⟨some 30, .call 378 [0] [(.t 28), (.t 29)], none⟩,
               ⟨some 31, .fad (.t 3) 23, none⟩,
               ⟨none, .st 1 (.t 31) (.t 30), none⟩] none)
             (.seq (.reg [0, 2, 3, 7, 32] [] [
                ⟨some 33, .bin .eql (.t 7) (.c (.v false (.int .i64 4))), none⟩,
                ⟨some 32, .mv (.t 33), none⟩] none)
              (.cond (.t 32) (.reg [0, 2, 3] [] [
                 ⟨some 34, .mv (.t 0), none⟩,
                 ⟨some 35, .bsl 1 [.int .i64 0, .int .i64 0, .int .i64 0] 3 [(0, (.c (.v false (.int .i64 (-1))))), (1, (.c (.v false (.int .i64 0)))), (2, (.c (.v false (.int .i64 (-2)))))], none⟩,
                 ⟨some 36, .call 378 [0] [(.t 34), (.t 35)], none⟩,
                 ⟨some 37, .fad (.t 3) 24, none⟩,
                 ⟨none, .st 1 (.t 37) (.t 36), none⟩] none)
               (.seq (.reg [0, 2, 3, 38] [] [
                  ⟨some 39, .bin .eql (.t 7) (.c (.v false (.int .i64 5))), none⟩,
                  ⟨some 38, .mv (.t 39), none⟩] none)
                (.cond (.t 38) (.reg [0, 2, 3] [] [
                   ⟨some 40, .fad (.t 3) 3, none⟩,
                   ⟨none, .st 1 (.t 40) (.c (.v false (.int .i64 (-2)))), none⟩] none)
                 (.skip)))))))))))))))
   (.seq (.reg [0, 2] [] [
      ⟨some 41, .ld true 25 (.t 3), none⟩,
      ⟨none, .st 25 (.t 2) (.t 41), none⟩] none)
    (.ret))))

def pf386 : PF := ⟨[.b 2 25 true], [0], pb386⟩

-- loop.example/g00496/spec.l20Copy
def pb387 : PC :=
.seq (.reg [1, 2] [] [
   ⟨some 1, .box 25 (.t 0), none⟩,
   ⟨some 2, .alloc [(.v false (.int .i64 0)), (.v false (.int .i64 0)), (.nl 3), (.v false (.int .i64 0)), (.v false (.int .i64 0)), (.v false (.int .i64 0)), (.v false (.int .i64 0)), (.v false (.int .i64 0)), (.v false (.int .i64 0)), (.v false (.int .i64 0)), (.v false (.str ⟨#[]⟩)), (.nl 7), (.v false (.int .i64 0)), (.nl 1), (.nl 2), (.v false (.int .i64 0)), (.v false (.bool false)), (.v false (.int .i64 0)), (.v false (.int .i64 0)), (.v false (.str ⟨#[]⟩)), (.v false (.int .i64 0)), (.v false (.int .i64 0)), (.v false (.int .i64 0)), (.v false (.int .i64 0)), (.v false (.int .i64 0))], none⟩] none)
 (.seq (.reg [1, 2, 3] [] [
    ⟨some 6, .ld true 25 (.t 1), none⟩,
    ⟨some 3, .alloc [(.v false (.int .i64 0)), (.v false (.int .i64 0)), (.nl 3), (.v false (.int .i64 0)), (.v false (.int .i64 0)), (.v false (.int .i64 0)), (.v false (.int .i64 0)), (.v false (.int .i64 0)), (.v false (.int .i64 0)), (.v false (.int .i64 0)), (.v false (.str ⟨#[]⟩)), (.nl 7), (.v false (.int .i64 0)), (.nl 1), (.nl 2), (.v false (.int .i64 0)), (.v false (.bool false)), (.v false (.int .i64 0)), (.v false (.int .i64 0)), (.v false (.str ⟨#[]⟩)), (.v false (.int .i64 0)), (.v false (.int .i64 0)), (.v false (.int .i64 0)), (.v false (.int .i64 0)), (.v false (.int .i64 0))], none⟩,
    ⟨none, .st 25 (.t 3) (.t 6), none⟩] none)
  (.seq (.reg [1, 2, 3] [] [
     ⟨some 7, .bsl 3 [] 0 [], none⟩,
     ⟨some 8, .fad (.t 1) 2, none⟩,
     ⟨some 9, .ld false 1 (.t 8), none⟩,
     ⟨some 10, .app 3 32 (.t 7) (.t 9), none⟩,
     ⟨some 11, .fad (.t 3) 2, none⟩,
     ⟨none, .st 1 (.t 11) (.t 10), none⟩] none)
   (.seq (.reg [1, 2, 3, 4] [] [
      ⟨some 12, .fad (.t 1) 4, none⟩,
      ⟨some 13, .ld true 10 (.t 12), none⟩,
      ⟨some 14, .call 353 [] [(.t 13)], none⟩,
      ⟨some 4, .alloc [(.v false (.int .i64 0)), (.v false (.int .i64 0)), (.v false (.int .i64 0)), (.v false (.int .i64 0)), (.v false (.int .i64 0)), (.v false (.int .i64 0)), (.v false (.str ⟨#[]⟩)), (.nl 7), (.v false (.int .i64 0)), (.nl 1)], none⟩,
      ⟨none, .st 10 (.t 4) (.t 14), none⟩] none)
    (.seq (.reg [1, 2, 3] [] [
       ⟨some 15, .ld true 10 (.t 4), none⟩,
       ⟨some 16, .fad (.t 3) 4, none⟩,
       ⟨none, .st 10 (.t 16) (.t 15), none⟩] none)
     (.seq (.reg [2, 3, 5] [] [
        ⟨some 17, .fad (.t 1) 14, none⟩,
        ⟨some 18, .ld true 6 (.t 17), none⟩,
        ⟨some 19, .call 356 [] [(.t 18)], none⟩,
        ⟨some 5, .alloc [(.nl 2), (.v false (.int .i64 0)), (.v false (.bool false)), (.v false (.int .i64 0)), (.v false (.int .i64 0)), (.v false (.str ⟨#[]⟩))], none⟩,
        ⟨none, .st 6 (.t 5) (.t 19), none⟩] none)
      (.seq (.reg [2, 3] [] [
         ⟨some 20, .ld true 6 (.t 5), none⟩,
         ⟨some 21, .fad (.t 3) 14, none⟩,
         ⟨none, .st 6 (.t 21) (.t 20), none⟩] none)
       (.seq (.reg [2] [] [
          ⟨some 22, .ld true 25 (.t 3), none⟩,
          ⟨none, .st 25 (.t 2) (.t 22), none⟩] none)
        (.ret))))))))

def pf387 : PF := ⟨[.b 2 25 true], [], pb387⟩

-- loop.example/g00496/spec.l20Draw
def pb388 : PC :=
.seq (.reg [0, 2] [] [
   ⟨some 2, .alloc [(.v false (.int .i64 0)), (.v false (.int .i64 0)), (.nl 3), (.v false (.int .i64 0)), (.v false (.int .i64 0)), (.v false (.int .i64 0)), (.v false (.int .i64 0)), (.v false (.int .i64 0)), (.v false (.int .i64 0)), (.v false (.int .i64 0)), (.v false (.str ⟨#[]⟩)), (.nl 7), (.v false (.int .i64 0)), (.nl 1), (.nl 2), (.v false (.int .i64 0)), (.v false (.bool false)), (.v false (.int .i64 0)), (.v false (.int .i64 0)), (.v false (.str ⟨#[]⟩)), (.v false (.int .i64 0)), (.v false (.int .i64 0)), (.v false (.int .i64 0)), (.v false (.int .i64 0)), (.v false (.int .i64 0))], none⟩] none)
 (.seq (.reg [0, 2, 3] [] [
    ⟨some 4, .mv (.t 0), none⟩,
    ⟨some 5, .call 375 [0] [(.t 4), (.c (.v false (.int .i64 4)))], none⟩,
    ⟨some 6, .bin .add (.c (.v false (.int .i64 1))) (.t 5), none⟩,
    ⟨some 7, .mv (.t 0), none⟩,
    ⟨some 8, .call 375 [0] [(.t 7), (.c (.v false (.int .i64 5)))], none⟩,
    ⟨some 9, .mv (.t 0), none⟩,
    ⟨some 10, .call 375 [0] [(.t 9), (.c (.v false (.int .i64 5)))], none⟩,
    ⟨some 11, .bin .sub (.t 10) (.c (.v false (.int .i64 1))), none⟩,
    ⟨some 12, .mv (.t 0), none⟩,
    ⟨some 13, .call 375 [0] [(.t 12), (.c (.v false (.int .i64 6)))], none⟩,
    ⟨some 14, .mv (.t 0), none⟩,
    ⟨some 15, .call 375 [0] [(.t 14), (.c (.v false (.int .i64 4)))], none⟩,
    ⟨some 16, .mv (.t 0), none⟩,
    ⟨some 17, .call 375 [0] [(.t 16), (.c (.v false (.int .i64 9)))], none⟩,
    ⟨some 18, .build [(.v false (.int .i64 0)), (.v false (.int .i64 0)), (.nl 3), (.v false (.int .i64 0)), (.v false (.int .i64 0)), (.v false (.int .i64 0)), (.v false (.int .i64 0)), (.v false (.int .i64 0)), (.v false (.int .i64 0)), (.v false (.int .i64 0)), (.v false (.str ⟨#[]⟩)), (.nl 7), (.v false (.int .i64 0)), (.nl 1), (.nl 2), (.v false (.int .i64 0)), (.v false (.bool false)), (.v false (.int .i64 0)), (.v false (.int .i64 0)), (.v false (.str ⟨#[]⟩)), (.v false (.int .i64 0)), (.v false (.int .i64 0)), (.v false (.int .i64 0)), (.v false (.int .i64 0)), (.v false (.int .i64 0))] [(0, 1, (.t 6)), (1, 1, (.t 8)), (3, 1, (.t 11)), (20, 1, (.t 13)), (21, 1, (.t 15)), (22, 1, (.t 17)), (23, 1, (.c (.v false (.int .i64 (-1))))), (24, 1, (.c (.v false (.int .i64 (-1)))))], none⟩,
    ⟨some 3, .alloc [(.v false (.int .i64 0)), (.v false (.int .i64 0)), (.nl 3), (.v false (.int .i64 0)), (.v false (.int .i64 0)), (.v false (.int .i64 0)), (.v false (.int .i64 0)), (.v false (.int .i64 0)), (.v false (.int .i64 0)), (.v false (.int .i64 0)), (.v false (.str ⟨#[]⟩)), (.nl 7), (.v false (.int .i64 0)), (.nl 1), (.nl 2), (.v false (.int .i64 0)), (.v false (.bool false)), (.v false (.int .i64 0)), (.v false (.int .i64 0)), (.v false (.str ⟨#[]⟩)), (.v false (.int .i64 0)), (.v false (.int .i64 0)), (.v false (.int .i64 0)), (.v false (.int .i64 0)), (.v false (.int .i64 0))], none⟩,
    ⟨none, .st 25 (.t 3) (.t 18), none⟩] none)
  (.seq (.seq (.reg [0, 2, 3, 21] [] [
      ⟨some 19, .fad (.t 3) 0, none⟩,
      ⟨some 20, .ld false 1 (.t 19), none⟩,
      ⟨some 21, .bin .eql (.t 20) (.c (.v false (.int .i64 1))), none⟩] none)
    (.cond (.t 21) (.reg [0, 2, 3] [] [
       ⟨some 22, .mv (.t 0), none⟩,
       ⟨some 23, .mv (.t 0), none⟩,
       ⟨some 24, .call 399 [0] [(.t 23)], none⟩,
       ⟨some 25, .call 401 [0] [(.t 22), (.t 24)], none⟩,
       ⟨some 26, .fad (.t 3) 2, none⟩,
       ⟨none, .st 1 (.t 26) (.t 25), none⟩] none)
     (.skip)))
   (.seq (.seq (.reg [0, 2, 3, 29] [] [
       ⟨some 27, .fad (.t 3) 0, none⟩,
       ⟨some 28, .ld false 1 (.t 27), none⟩,
       ⟨some 29, .bin .eql (.t 28) (.c (.v false (.int .i64 3))), none⟩] none)
     (.cond (.t 29) (.reg [0, 2, 3] [] [
        ⟨some 30, .mv (.t 0), none⟩,
        ⟨some 31, .mv (.t 0), none⟩,
        ⟨some 32, .call 399 [0] [(.t 31)], none⟩,
        ⟨some 33, .call 354 [0] [(.t 30), (.t 32)], none⟩,
        ⟨some 34, .fad (.t 3) 4, none⟩,
        ⟨none, .st 10 (.t 34) (.t 33), none⟩] none)
      (.skip)))
    (.seq (.seq (.reg [0, 2, 3, 37] [] [
        ⟨some 35, .mv (.t 0), none⟩,
        ⟨some 36, .call 382 [0] [(.t 35), (.c (.v false (.int .i64 4)))], none⟩,
        ⟨some 37, .un .not (.t 36), none⟩] none)
      (.cond (.t 37) (.seq (.reg [0, 2, 3] [] [
          ⟨some 38, .fad (.t 3) 22, none⟩,
          ⟨some 39, .ld false 1 (.t 38), none⟩,
          ⟨some 40, .mv (.t 0), none⟩,
          ⟨some 41, .call 375 [0] [(.t 40), (.c (.v false (.int .i64 4)))], none⟩,
          ⟨some 42, .bin .add (.t 39) (.t 41), none⟩,
          ⟨some 43, .fad (.t 3) 23, none⟩,
          ⟨none, .st 1 (.t 43) (.t 42), none⟩] (some [(1, 3)]))
        (.seq (.reg [0, 2, 3, 46] [] [
           ⟨some 44, .mv (.t 0), none⟩,
           ⟨some 45, .call 382 [0] [(.t 44), (.c (.v false (.int .i64 4)))], none⟩,
           ⟨some 46, .un .not (.t 45), none⟩] none)
         (.cond (.t 46) (.reg [0, 2, 3] [] [
            ⟨some 47, .fad (.t 3) 23, none⟩,
            ⟨some 48, .ld false 1 (.t 47), none⟩,
            ⟨some 49, .mv (.t 0), none⟩,
            ⟨some 50, .call 375 [0] [(.t 49), (.c (.v false (.int .i64 4)))], none⟩,
            ⟨some 51, .bin .add (.t 48) (.t 50), none⟩,
            ⟨some 52, .fad (.t 3) 24, none⟩,
            ⟨none, .st 1 (.t 52) (.t 51), none⟩] (some [(1, 3)]))
          (.skip))))
       (.skip)))
     (.seq (.reg [0, 2] [] [
        ⟨some 53, .ld true 25 (.t 3), none⟩,
        ⟨none, .st 25 (.t 2) (.t 53), none⟩] none)
      (.ret))))))

def pf388 : PF := ⟨[.b 2 25 true], [0], pb388⟩

-- loop.example/g00496/spec.l20List
def pl389_0 : PC :=
.seq (.seq (.reg [0, 3, 4, 10] [] [
          ⟨some 9, .mv (.t 4), none⟩,
          ⟨some 10, .bin .gtr (.t 9) (.c (.v false (.int .i64 0))), none⟩] none)
        (.cond (.t 10) (.skip)
         (.exit 0)))
       (.seq (.blk 1 (.seq (.reg [0, 3, 4, 5] [] [
            ⟨some 13, .mv (.t 0), none⟩,
            ⟨some 14, .call 388 [0] [(.t 13)], none⟩,
            ⟨some 5, .alloc [(.v false (.int .i64 0)), (.v false (.int .i64 0)), (.nl 3), (.v false (.int .i64 0)), (.v false (.int .i64 0)), (.v false (.int .i64 0)), (.v false (.int .i64 0)), (.v false (.int .i64 0)), (.v false (.int .i64 0)), (.v false (.int .i64 0)), (.v false (.str ⟨#[]⟩)), (.nl 7), (.v false (.int .i64 0)), (.nl 1), (.nl 2), (.v false (.int .i64 0)), (.v false (.bool false)), (.v false (.int .i64 0)), (.v false (.int .i64 0)), (.v false (.str ⟨#[]⟩)), (.v false (.int .i64 0)), (.v false (.int .i64 0)), (.v false (.int .i64 0)), (.v false (.int .i64 0)), (.v false (.int .i64 0))], none⟩,
            ⟨none, .st 25 (.t 5) (.t 14), none⟩] none)
          (.reg [0, 3, 4] [(18, 3)] [
            ⟨some 15, .mv (.t 3), none⟩,
            ⟨some 16, .ld true 25 (.t 5), none⟩,
            ⟨some 17, .bsl 25 [.int .i64 0, .int .i64 0, .sl 3 [], .int .i64 0, .int .i64 0, .int .i64 0, .int .i64 0, .int .i64 0, .int .i64 0, .int .i64 0, .str ⟨#[]⟩, .sl 7 [], .int .i64 0, .sl 1 [], .sl 2 [], .int .i64 0, .bool false, .int .i64 0, .int .i64 0, .str ⟨#[]⟩, .int .i64 0, .int .i64 0, .int .i64 0, .int .i64 0, .int .i64 0] 1 [(0, (.t 16))], none⟩,
            ⟨some 18, .app 25 280 (.t 15) (.t 17), none⟩,
            ⟨some 3, .mv (.t 18), none⟩] none)))
        (.reg [0, 3, 4] [] [
          ⟨some 11, .mv (.t 4), none⟩,
          ⟨some 12, .bin .sub (.t 11) (.c (.v false (.int .i64 1))), none⟩,
          ⟨some 4, .mv (.t 12), none⟩] none))

def pb389 : PC :=
.seq (.reg [0] [] [
   ⟨some 2, .mv (.c (.nl 25)), none⟩] none)
 (.seq (.reg [0, 3] [(6, 3)] [
    ⟨some 6, .bsl 25 [] 0 [], none⟩,
    ⟨some 3, .mv (.t 6), none⟩] none)
  (.seq (.seq (.reg [0, 3, 4] [(8, 4)] [
      ⟨some 7, .mv (.t 0), none⟩,
      ⟨some 8, .call 375 [0] [(.t 7), (.c (.v false (.int .i64 6)))], none⟩,
      ⟨some 4, .mv (.t 8), none⟩] none)
    (.blk 0 (.loop pl389_0)))
   (.seq (.reg [0, 2, 3] [] [
      ⟨some 19, .mv (.t 3), none⟩,
      ⟨some 2, .mv (.t 19), none⟩] none)
    (.ret))))

def pf389 : PF := ⟨[.s 2], [0], pb389⟩

-- loop.example/g00496/spec.l3Int
def pb395 : PC :=
.seq (.reg [0, 2] [] [
   ⟨some 2, .alloc [(.v false (.int .i64 0)), (.v false (.int .i64 0)), (.v false (.str ⟨#[]⟩))], none⟩] none)
 (.seq (.seq (.reg [0, 2, 4] [] [
     ⟨some 3, .mv (.t 0), none⟩,
     ⟨some 4, .call 382 [0] [(.t 3), (.c (.v false (.int .i64 4)))], none⟩] none)
   (.cond (.t 4) (.seq (.reg [0, 2] [] [
       ⟨some 5, .mv (.t 0), none⟩,
       ⟨some 6, .call 380 [0] [(.t 5)], none⟩,
       ⟨some 7, .build [(.v false (.int .i64 0)), (.v false (.int .i64 0)), (.v false (.str ⟨#[]⟩))] [(0, 1, (.c (.v false (.int .i64 1)))), (1, 1, (.t 6))], none⟩,
       ⟨none, .st 3 (.t 2) (.t 7), none⟩] none)
     (.ret))
    (.skip)))
  (.seq (.reg [0, 2] [] [
     ⟨some 8, .mv (.t 0), none⟩,
     ⟨some 9, .bsl 1 [.int .i64 0, .int .i64 0, .int .i64 0, .int .i64 0, .int .i64 0, .int .i64 0] 6 [(0, (.c (.v false (.int .i64 0)))), (1, (.c (.v false (.int .i64 1)))), (2, (.c (.v false (.int .i64 2)))), (3, (.c (.v false (.int .i64 3)))), (4, (.c (.v false (.int .i64 7)))), (5, (.c (.v false (.int .i64 (-1)))))], none⟩,
     ⟨some 10, .call 378 [0] [(.t 8), (.t 9)], none⟩,
     ⟨some 11, .build [(.v false (.int .i64 0)), (.v false (.int .i64 0)), (.v false (.str ⟨#[]⟩))] [(0, 1, (.c (.v false (.int .i64 1)))), (1, 1, (.t 10))], none⟩,
     ⟨none, .st 3 (.t 2) (.t 11), none⟩] none)
   (.ret)))

def pf395 : PF := ⟨[.b 2 3 true], [0], pb395⟩

-- loop.example/g00496/spec.l3Text
def pb396 : PC :=
.seq (.reg [0, 2] [] [
   ⟨some 2, .alloc [(.v false (.int .i64 0)), (.v false (.int .i64 0)), (.v false (.str ⟨#[]⟩))], none⟩] none)
 (.seq (.reg [0, 2] [] [
    ⟨some 3, .mv (.t 0), none⟩,
    ⟨some 4, .bsl 1 [.str ⟨#[]⟩, .str ⟨#[]⟩, .str ⟨#[]⟩, .str ⟨#[]⟩, .str ⟨#[]⟩, .str ⟨#[]⟩, .str ⟨#[]⟩, .str ⟨#[]⟩] 8 [(0, (.c (.v false (.str ⟨#[]⟩)))), (1, (.c (.v false (.str ⟨#[97]⟩)))), (2, (.c (.v false (.str ⟨#[98]⟩)))), (3, (.c (.v false (.str ⟨#[97, 98]⟩)))), (4, (.c (.v false (.str ⟨#[114, 101, 100]⟩)))), (5, (.c (.v false (.str ⟨#[98, 108, 117, 101]⟩)))), (6, (.c (.v false (.str ⟨#[103, 114, 101, 101, 110]⟩)))), (7, (.c (.v false (.str ⟨#[122, 122, 122, 122, 122, 122]⟩))))], none⟩,
    ⟨some 5, .call 385 [0] [(.t 3), (.t 4)], none⟩,
    ⟨some 6, .build [(.v false (.int .i64 0)), (.v false (.int .i64 0)), (.v false (.str ⟨#[]⟩))] [(0, 1, (.c (.v false (.int .i64 2)))), (2, 1, (.t 5))], none⟩,
    ⟨none, .st 3 (.t 2) (.t 6), none⟩] none)
  (.ret))

def pf396 : PF := ⟨[.b 2 3 true], [0], pb396⟩

-- loop.example/g00496/spec.l4All
def pl397_0 : PC :=
.seq (.seq (.reg [0, 3, 4, 10] [] [
          ⟨some 7, .mv (.t 4), none⟩,
          ⟨some 8, .mv (.t 0), none⟩,
          ⟨some 9, .len (.t 8), none⟩,
          ⟨some 10, .bin .lss (.t 7) (.t 9), none⟩] none)
        (.cond (.t 10) (.skip)
         (.exit 0)))
       (.seq (.blk 1 (.seq (.reg [0, 3, 4, 5] [] [
            ⟨some 13, .mv (.t 0), none⟩,
            ⟨some 14, .mv (.t 4), none⟩,
            ⟨some 15, .iad 2 (.t 13) (.t 14), none⟩,
            ⟨some 16, .ld true 2 (.t 15), none⟩,
            ⟨some 17, .call 400 [] [(.t 16)], none⟩,
            ⟨some 5, .alloc [(.v false (.int .i64 0)), (.nl 3)], none⟩,
            ⟨none, .st 2 (.t 5) (.t 17), none⟩] none)
          (.reg [0, 3, 4] [(21, 3)] [
            ⟨some 18, .mv (.t 3), none⟩,
            ⟨some 19, .ld true 2 (.t 5), none⟩,
            ⟨some 20, .bsl 2 [.int .i64 0, .sl 3 []] 1 [(0, (.t 19))], none⟩,
            ⟨some 21, .app 2 32 (.t 18) (.t 20), none⟩,
            ⟨some 3, .mv (.t 21), none⟩] none)))
        (.reg [0, 3, 4] [] [
          ⟨some 11, .mv (.t 4), none⟩,
          ⟨some 12, .bin .add (.t 11) (.c (.v false (.int .i64 1))), none⟩,
          ⟨some 4, .mv (.t 12), none⟩] none))

def pb397 : PC :=
.seq (.reg [0] [] [
   ⟨some 2, .mv (.c (.nl 2)), none⟩] none)
 (.seq (.reg [0, 3] [(6, 3)] [
    ⟨some 6, .bsl 2 [] 0 [], none⟩,
    ⟨some 3, .mv (.t 6), none⟩] none)
  (.seq (.seq (.reg [0, 3, 4] [] [
      ⟨some 4, .mv (.c (.v false (.int .i64 0))), none⟩] none)
    (.blk 0 (.loop pl397_0)))
   (.seq (.reg [2, 3] [] [
      ⟨some 22, .mv (.t 3), none⟩,
      ⟨some 2, .mv (.t 22), none⟩] none)
    (.ret))))

def pf397 : PF := ⟨[.s 2], [], pb397⟩

-- loop.example/g00496/spec.l4Cols
def pb399 : PC :=
.seq (.reg [0] [] [
   ⟨some 2, .mv (.c (.nl 1)), none⟩] none)
 (.seq (.reg [0, 2, 9] [(11, 2)] [
    ⟨some 3, .bsl 1 [.int .i64 0] 1 [(0, (.c (.v false (.int .i64 1))))], none⟩,
    ⟨some 4, .bsl 1 [.int .i64 0] 1 [(0, (.c (.v false (.int .i64 2))))], none⟩,
    ⟨some 5, .bsl 1 [.int .i64 0, .int .i64 0] 2 [(0, (.c (.v false (.int .i64 1)))), (1, (.c (.v false (.int .i64 2))))], none⟩,
    ⟨some 6, .bsl 1 [.int .i64 0, .int .i64 0] 2 [(0, (.c (.v false (.int .i64 1)))), (1, (.c (.v false (.int .i64 1))))], none⟩,
    ⟨some 7, .bsl 1 [.int .i64 0, .int .i64 0] 2 [(0, (.c (.v false (.int .i64 2)))), (1, (.c (.v false (.int .i64 1))))], none⟩,
    ⟨some 8, .bsl 1 [.int .i64 0, .int .i64 0, .int .i64 0] 3 [(0, (.c (.v false (.int .i64 1)))), (1, (.c (.v false (.int .i64 2)))), (2, (.c (.v false (.int .i64 1))))], none⟩,
    ⟨some 9, .bsl 1 [.sl 1 [], .sl 1 [], .sl 1 [], .sl 1 [], .sl 1 [], .sl 1 []] 6 [(0, (.t 3)), (1, (.t 4)), (2, (.t 5)), (3, (.t 6)), (4, (.t 7)), (5, (.t 8))], none⟩,
    ⟨some 10, .mv (.t 0), none⟩,
    ⟨some 11, .call 375 [0] [(.t 10), (.c (.v false (.int .i64 6)))], none⟩,
    ⟨some 12, .iad 1 (.t 9) (.t 11), none⟩,
    ⟨some 13, .ld false 1 (.t 12), none⟩,
    ⟨some 2, .mv (.t 13), none⟩] none)
  (.ret))

def pf399 : PF := ⟨[.s 2], [0], pb399⟩

-- loop.example/g00496/spec.l4Copy
def pb400 : PC :=
.seq (.reg [1, 2] [] [
   ⟨some 1, .box 2 (.t 0), none⟩,
   ⟨some 2, .alloc [(.v false (.int .i64 0)), (.nl 3)], none⟩] none)
 (.seq (.reg [2] [] [
    ⟨some 3, .fad (.t 1) 0, none⟩,
    ⟨some 4, .ld false 1 (.t 3), none⟩,
    ⟨some 5, .bsl 3 [] 0 [], none⟩,
    ⟨some 6, .fad (.t 1) 1, none⟩,
    ⟨some 7, .ld false 1 (.t 6), none⟩,
    ⟨some 8, .app 3 32 (.t 5) (.t 7), none⟩,
    ⟨some 9, .build [(.v false (.int .i64 0)), (.nl 3)] [(0, 1, (.t 4)), (1, 1, (.t 8))], none⟩,
    ⟨none, .st 2 (.t 2) (.t 9), none⟩] (some [(1, 2), (2, 4), (1, 5)]))
  (.ret))

def pf400 : PF := ⟨[.b 2 2 true], [], pb400⟩

-- loop.example/g00496/spec.l4Vals
def pl401_0 : PC :=
.seq (.seq (.reg [0, 1, 5, 6, 11] [] [
          ⟨some 8, .mv (.t 6), none⟩,
          ⟨some 9, .mv (.t 1), none⟩,
          ⟨some 10, .len (.t 9), none⟩,
          ⟨some 11, .bin .lss (.t 8) (.t 10), none⟩] none)
        (.cond (.t 11) (.skip)
         (.exit 0)))
       (.seq (.blk 1 (.seq (.reg [0, 1, 5, 6, 18] [] [
            ⟨some 14, .mv (.t 1), none⟩,
            ⟨some 15, .mv (.t 6), none⟩,
            ⟨some 16, .iad 1 (.t 14) (.t 15), none⟩,
            ⟨some 17, .ld false 1 (.t 16), none⟩,
            ⟨some 18, .bin .eql (.t 17) (.c (.v false (.int .i64 1))), none⟩] none)
          (.cond (.t 18) (.reg [0, 1, 5, 6] [(23, 5)] [
             ⟨some 19, .mv (.t 5), none⟩,
             ⟨some 20, .mv (.t 0), none⟩,
             ⟨some 21, .call 395 [0] [(.t 20)], none⟩,
             ⟨some 22, .bsl 3 [.int .i64 0, .int .i64 0, .str ⟨#[]⟩] 1 [(0, (.t 21))], none⟩,
             ⟨some 23, .app 3 32 (.t 19) (.t 22), none⟩,
             ⟨some 5, .mv (.t 23), none⟩] none)
           (.reg [0, 1, 5, 6] [(28, 5)] [
             ⟨some 24, .mv (.t 5), none⟩,
             ⟨some 25, .mv (.t 0), none⟩,
             ⟨some 26, .call 396 [0] [(.t 25)], none⟩,
             ⟨some 27, .bsl 3 [.int .i64 0, .int .i64 0, .str ⟨#[]⟩] 1 [(0, (.t 26))], none⟩,
             ⟨some 28, .app 3 32 (.t 24) (.t 27), none⟩,
             ⟨some 5, .mv (.t 28), none⟩] none))))
        (.reg [0, 1, 5, 6] [] [
          ⟨some 12, .mv (.t 6), none⟩,
          ⟨some 13, .bin .add (.t 12) (.c (.v false (.int .i64 1))), none⟩,
          ⟨some 6, .mv (.t 13), none⟩] none))

def pb401 : PC :=
.seq (.reg [0, 1] [] [
   ⟨some 4, .mv (.c (.nl 3)), none⟩] none)
 (.seq (.reg [0, 1, 5] [(7, 5)] [
    ⟨some 7, .bsl 3 [] 0 [], none⟩,
    ⟨some 5, .mv (.t 7), none⟩] none)
  (.seq (.seq (.reg [0, 1, 5, 6] [] [
      ⟨some 6, .mv (.c (.v false (.int .i64 0))), none⟩] none)
    (.blk 0 (.loop pl401_0)))
   (.seq (.reg [0, 4, 5] [] [
      ⟨some 29, .mv (.t 5), none⟩,
      ⟨some 4, .mv (.t 29), none⟩] none)
    (.ret))))

def pf401 : PF := ⟨[.s 4], [0], pb401⟩

-- slices.Equal[[]loop.example/g00496/impl.Val,loop.example/g00496/impl.Val]
def pl404_0 : PC :=
.seq (.reg [0, 1, 12, 13, 14] [] [
         ⟨some 14, .bin .lss (.t 13) (.t 12), none⟩] none)
       (.seq (.cond (.t 14) (.skip)
         (.exit 0))
        (.seq (.blk 1 (.seq (.reg [0, 1, 5, 12, 13] [] [
             ⟨some 15, .mv (.t 13), none⟩,
             ⟨some 5, .mv (.t 15), none⟩] none)
           (.seq (.reg [0, 1, 12, 13, 24] [] [
              ⟨some 16, .mv (.t 0), none⟩,
              ⟨some 17, .mv (.t 5), none⟩,
              ⟨some 18, .iad 3 (.t 16) (.t 17), none⟩,
              ⟨some 19, .ld true 3 (.t 18), none⟩,
              ⟨some 20, .mv (.t 1), none⟩,
              ⟨some 21, .mv (.t 5), none⟩,
              ⟨some 22, .iad 3 (.t 20) (.t 21), none⟩,
              ⟨some 23, .ld true 3 (.t 22), none⟩,
              ⟨some 24, .eqs true [0, 0, 2] (.t 19) (.t 23), none⟩] (some []))
            (.cond (.t 24) (.seq (.reg [4] [] [
                ⟨some 4, .mv (.c (.v false (.bool false))), none⟩] none)
              (.ret))
             (.skip)))))
         (.reg [0, 1, 12, 13] [] [
           ⟨some 25, .bin .add (.t 13) (.c (.v false (.int .i64 1))), none⟩,
           ⟨some 13, .mv (.t 25), none⟩] none)))

def pb404 : PC :=
.seq (.reg [0, 1] [] [
   ⟨some 4, .mv (.c (.v false (.bool false))), none⟩] none)
 (.seq (.seq (.reg [0, 1, 10] [] [
     ⟨some 6, .mv (.t 0), none⟩,
     ⟨some 7, .len (.t 6), none⟩,
     ⟨some 8, .mv (.t 1), none⟩,
     ⟨some 9, .len (.t 8), none⟩,
     ⟨some 10, .bin .neq (.t 7) (.t 9), none⟩] none)
   (.cond (.t 10) (.seq (.reg [4] [] [
       ⟨some 4, .mv (.c (.v false (.bool false))), none⟩] none)
     (.ret))
    (.skip)))
  (.seq (.seq (.reg [0, 1, 12, 13] [] [
      ⟨some 11, .mv (.t 0), none⟩,
      ⟨some 12, .len (.t 11), none⟩,
      ⟨some 13, .mv (.c (.v false (.int .i64 0))), none⟩] none)
    (.blk 0 (.loop pl404_0)))
   (.seq (.reg [4] [] [
      ⟨some 4, .mv (.c (.v false (.bool true))), none⟩] none)
    (.ret))))

def pf404 : PF := ⟨[.s 4], [], pb404⟩

-- slices.SortStableFunc[[]int,int]
def pb405 : PC :=
.reg [0] [] [
  ⟨some 4, .mv (.t 0), none⟩,
  ⟨some 5, .mv (.t 0), none⟩,
  ⟨some 6, .len (.t 5), none⟩,
  ⟨some 7, .mv (.t 1), none⟩,
  ⟨some 8, .call 408 [0] [(.t 4), (.t 6), (.t 7)], none⟩] none

def pf405 : PF := ⟨[], [0], pb405⟩

-- slices.insertionSortCmpFunc[int]
def pl406_0 : PC :=
.seq (.seq (.reg [0, 1, 2, 3, 8, 9, 34] [] [
             ⟨some 18, .mv (.t 9), none⟩,
             ⟨some 19, .mv (.t 1), none⟩,
             ⟨some 20, .bin .gtr (.t 18) (.t 19), none⟩,
             ⟨some 21, .mv (.t 20), none⟩,
             ⟨some 22, .mv (.t 3), some (21, true)⟩,
             ⟨some 23, .mv (.t 0), some (21, true)⟩,
             ⟨some 24, .mv (.t 9), some (21, true)⟩,
             ⟨some 25, .iad 1 (.t 23) (.t 24), some (21, true)⟩,
             ⟨some 26, .ld false 1 (.t 25), some (21, true)⟩,
             ⟨some 27, .mv (.t 0), some (21, true)⟩,
             ⟨some 28, .mv (.t 9), some (21, true)⟩,
             ⟨some 29, .bin .sub (.t 28) (.c (.v false (.int .i64 1))), some (21, true)⟩,
             ⟨some 30, .iad 1 (.t 27) (.t 29), some (21, true)⟩,
             ⟨some 31, .ld false 1 (.t 30), some (21, true)⟩,
             ⟨some 32, .callv (.t 22) [(.t 26), (.t 31)], some (21, true)⟩,
             ⟨some 33, .bin .lss (.t 32) (.c (.v false (.int .i64 0))), some (21, true)⟩,
             ⟨some 34, .pick (.t 21) (.t 33) (.c (.v false (.bool false))), none⟩] (some []))
           (.cond (.t 34) (.skip)
            (.exit 2)))
          (.seq (.blk 3 (.reg [0, 1, 2, 3, 8, 9] [] [
              ⟨some 37, .mv (.t 0), none⟩,
              ⟨some 38, .mv (.t 9), none⟩,
              ⟨some 39, .mv (.t 0), none⟩,
              ⟨some 40, .mv (.t 9), none⟩,
              ⟨some 41, .bin .sub (.t 40) (.c (.v false (.int .i64 1))), none⟩,
              ⟨some 42, .mv (.t 0), none⟩,
              ⟨some 43, .mv (.t 9), none⟩,
              ⟨some 44, .bin .sub (.t 43) (.c (.v false (.int .i64 1))), none⟩,
              ⟨some 45, .iad 1 (.t 42) (.t 44), none⟩,
              ⟨some 46, .ld false 1 (.t 45), none⟩,
              ⟨some 47, .mv (.t 0), none⟩,
              ⟨some 48, .mv (.t 9), none⟩,
              ⟨some 49, .iad 1 (.t 47) (.t 48), none⟩,
              ⟨some 50, .ld false 1 (.t 49), none⟩,
              ⟨some 51, .iad 1 (.t 37) (.t 38), none⟩,
              ⟨none, .st 1 (.t 51) (.t 46), none⟩,
              ⟨some 52, .iad 1 (.t 39) (.t 41), none⟩,
              ⟨none, .st 1 (.t 52) (.t 50), none⟩] (some [])))
           (.reg [0, 1, 2, 3, 8, 9] [] [
             ⟨some 35, .mv (.t 9), none⟩,
             ⟨some 36, .bin .sub (.t 35) (.c (.v false (.int .i64 1))), none⟩,
             ⟨some 9, .mv (.t 36), none⟩] none))

def pl406_1 : PC :=
.seq (.seq (.reg [0, 1, 2, 3, 8, 14] [] [
       ⟨some 12, .mv (.t 8), none⟩,
       ⟨some 13, .mv (.t 2), none⟩,
       ⟨some 14, .bin .lss (.t 12) (.t 13), none⟩] none)
     (.cond (.t 14) (.skip)
      (.exit 0)))
    (.seq (.blk 1 (.seq (.reg [0, 1, 2, 3, 8, 9] [] [
         ⟨some 17, .mv (.t 8), none⟩,
         ⟨some 9, .mv (.t 17), none⟩] none)
       (.blk 2 (.loop pl406_0))))
     (.reg [0, 1, 2, 3, 8] [] [
       ⟨some 15, .mv (.t 8), none⟩,
       ⟨some 16, .bin .add (.t 15) (.c (.v false (.int .i64 1))), none⟩,
       ⟨some 8, .mv (.t 16), none⟩] none))

def pb406 : PC :=
.seq (.reg [0, 1, 2, 3, 8] [] [
   ⟨some 10, .mv (.t 1), none⟩,
   ⟨some 11, .bin .add (.t 10) (.c (.v false (.int .i64 1))), none⟩,
   ⟨some 8, .mv (.t 11), none⟩] none)
 (.blk 0 (.loop pl406_1))

def pf406 : PF := ⟨[], [0], pb406⟩

-- slices.rotateCmpFunc[int]
def pl407_0 : PC :=
.seq (.seq (.reg [0, 2, 4, 10, 11, 20] [] [
         ⟨some 18, .mv (.t 10), none⟩,
         ⟨some 19, .mv (.t 11), none⟩,
         ⟨some 20, .bin .neq (.t 18) (.t 19), none⟩] none)
       (.cond (.t 20) (.skip)
        (.exit 0)))
      (.blk 1 (.seq (.reg [0, 2, 4, 10, 11, 23] [] [
          ⟨some 21, .mv (.t 10), none⟩,
          ⟨some 22, .mv (.t 11), none⟩,
          ⟨some 23, .bin .gtr (.t 21) (.t 22), none⟩] none)
        (.cond (.t 23) (.seq (.reg [0, 2, 4, 10, 11] [] [
            ⟨some 24, .mv (.t 0), none⟩,
            ⟨some 25, .mv (.t 2), none⟩,
            ⟨some 26, .mv (.t 10), none⟩,
            ⟨some 27, .bin .sub (.t 25) (.t 26), none⟩,
            ⟨some 28, .mv (.t 2), none⟩,
            ⟨some 29, .mv (.t 11), none⟩,
            ⟨some 30, .mv (.t 4), none⟩,
            ⟨some 31, .call 409 [0] [(.t 24), (.t 27), (.t 28), (.t 29), (.t 30)], none⟩] none)
          (.reg [0, 2, 4, 10, 11] [] [
            ⟨some 32, .mv (.t 10), none⟩,
            ⟨some 33, .mv (.t 11), none⟩,
            ⟨some 34, .bin .sub (.t 32) (.t 33), none⟩,
            ⟨some 10, .mv (.t 34), none⟩] none))
         (.seq (.reg [0, 2, 4, 10, 11] [] [
            ⟨some 35, .mv (.t 0), none⟩,
            ⟨some 36, .mv (.t 2), none⟩,
            ⟨some 37, .mv (.t 10), none⟩,
            ⟨some 38, .bin .sub (.t 36) (.t 37), none⟩,
            ⟨some 39, .mv (.t 2), none⟩,
            ⟨some 40, .mv (.t 11), none⟩,
            ⟨some 41, .bin .add (.t 39) (.t 40), none⟩,
            ⟨some 42, .mv (.t 10), none⟩,
            ⟨some 43, .bin .sub (.t 41) (.t 42), none⟩,
            ⟨some 44, .mv (.t 10), none⟩,
            ⟨some 45, .mv (.t 4), none⟩,
            ⟨some 46, .call 409 [0] [(.t 35), (.t 38), (.t 43), (.t 44), (.t 45)], none⟩] none)
          (.reg [0, 2, 4, 10, 11] [] [
            ⟨some 47, .mv (.t 11), none⟩,
            ⟨some 48, .mv (.t 10), none⟩,
            ⟨some 49, .bin .sub (.t 47) (.t 48), none⟩,
            ⟨some 11, .mv (.t 49), none⟩] none)))))

def pb407 : PC :=
.seq (.reg [0, 2, 3, 4, 10] [] [
   ⟨some 12, .mv (.t 2), none⟩,
   ⟨some 13, .mv (.t 1), none⟩,
   ⟨some 14, .bin .sub (.t 12) (.t 13), none⟩,
   ⟨some 10, .mv (.t 14), none⟩] none)
 (.seq (.reg [0, 2, 4, 10, 11] [] [
    ⟨some 15, .mv (.t 3), none⟩,
    ⟨some 16, .mv (.t 2), none⟩,
    ⟨some 17, .bin .sub (.t 15) (.t 16), none⟩,
    ⟨some 11, .mv (.t 17), none⟩] none)
  (.seq (.blk 0 (.loop pl407_0))
   (.reg [0] [] [
     ⟨some 50, .mv (.t 0), none⟩,
     ⟨some 51, .mv (.t 2), none⟩,
     ⟨some 52, .mv (.t 10), none⟩,
     ⟨some 53, .bin .sub (.t 51) (.t 52), none⟩,
     ⟨some 54, .mv (.t 2), none⟩,
     ⟨some 55, .mv (.t 10), none⟩,
     ⟨some 56, .mv (.t 4), none⟩,
     ⟨some 57, .call 409 [0] [(.t 50), (.t 53), (.t 54), (.t 55), (.t 56)], none⟩] none)))

def pf407 : PF := ⟨[], [0], pb407⟩

-- slices.stableCmpFunc[int]
def pl408_0 : PC :=
.seq (.seq (.reg [0, 1, 2, 6, 7, 8, 35] [] [
                ⟨some 33, .mv (.t 8), none⟩,
                ⟨some 34, .mv (.t 1), none⟩,
                ⟨some 35, .bin .leq (.t 33) (.t 34), none⟩] none)
              (.cond (.t 35) (.skip)
               (.exit 4)))
             (.blk 5 (.seq (.reg [0, 1, 2, 6, 8] [] [
                 ⟨some 36, .mv (.t 0), none⟩,
                 ⟨some 37, .mv (.t 7), none⟩,
                 ⟨some 38, .mv (.t 7), none⟩,
                 ⟨some 39, .mv (.t 6), none⟩,
                 ⟨some 40, .bin .add (.t 38) (.t 39), none⟩,
                 ⟨some 41, .mv (.t 8), none⟩,
                 ⟨some 42, .mv (.t 2), none⟩,
                 ⟨some 43, .call 410 [0] [(.t 36), (.t 37), (.t 40), (.t 41), (.t 42)], none⟩] none)
               (.seq (.reg [0, 1, 2, 6, 7, 8] [] [
                  ⟨some 44, .mv (.t 8), none⟩,
                  ⟨some 7, .mv (.t 44), none⟩] none)
                (.reg [0, 1, 2, 6, 7, 8] [] [
                  ⟨some 45, .mv (.t 8), none⟩,
                  ⟨some 46, .mv (.t 6), none⟩,
                  ⟨some 47, .bin .mul (.c (.v false (.int .i64 2))) (.t 46), none⟩,
                  ⟨some 48, .bin .add (.t 45) (.t 47), none⟩,
                  ⟨some 8, .mv (.t 48), none⟩] none))))

def pl408_1 : PC :=
.seq (.seq (.reg [0, 1, 2, 6, 30] [] [
          ⟨some 28, .mv (.t 6), none⟩,
          ⟨some 29, .mv (.t 1), none⟩,
          ⟨some 30, .bin .lss (.t 28) (.t 29), none⟩] none)
        (.cond (.t 30) (.skip)
         (.exit 2)))
       (.blk 3 (.seq (.reg [0, 1, 2, 6, 7, 8] [] [
           ⟨some 31, .mv (.t 6), none⟩,
           ⟨some 32, .bin .mul (.c (.v false (.int .i64 2))) (.t 31), none⟩,
           ⟨some 7, .mv (.c (.v false (.int .i64 0))), none⟩,
           ⟨some 8, .mv (.t 32), none⟩] none)
         (.seq (.blk 4 (.loop pl408_0))
          (.seq (.seq (.reg [0, 1, 2, 6, 7, 9] [] [
              ⟨some 49, .mv (.t 7), none⟩,
              ⟨some 50, .mv (.t 6), none⟩,
              ⟨some 51, .bin .add (.t 49) (.t 50), none⟩,
              ⟨some 9, .mv (.t 51), none⟩] none)
            (.seq (.reg [0, 1, 2, 6, 7, 9, 54] [] [
               ⟨some 52, .mv (.t 9), none⟩,
               ⟨some 53, .mv (.t 1), none⟩,
               ⟨some 54, .bin .lss (.t 52) (.t 53), none⟩] none)
             (.cond (.t 54) (.reg [0, 1, 2, 6] [] [
                ⟨some 55, .mv (.t 0), none⟩,
                ⟨some 56, .mv (.t 7), none⟩,
                ⟨some 57, .mv (.t 9), none⟩,
                ⟨some 58, .mv (.t 1), none⟩,
                ⟨some 59, .mv (.t 2), none⟩,
                ⟨some 60, .call 410 [0] [(.t 55), (.t 56), (.t 57), (.t 58), (.t 59)], none⟩] none)
              (.skip))))
           (.reg [0, 1, 2, 6] [] [
             ⟨some 61, .mv (.t 6), none⟩,
             ⟨some 62, .bin .mul (.t 61) (.c (.v false (.int .i64 2))), none⟩,
             ⟨some 6, .mv (.t 62), none⟩] none)))))

def pl408_2 : PC :=
.seq (.seq (.reg [0, 1, 2, 6, 7, 8, 13] [] [
         ⟨some 11, .mv (.t 8), none⟩,
         ⟨some 12, .mv (.t 1), none⟩,
         ⟨some 13, .bin .leq (.t 11) (.t 12), none⟩] none)
       (.cond (.t 13) (.skip)
        (.exit 0)))
      (.blk 1 (.seq (.reg [0, 1, 2, 6, 8] [] [
          ⟨some 14, .mv (.t 0), none⟩,
          ⟨some 15, .mv (.t 7), none⟩,
          ⟨some 16, .mv (.t 8), none⟩,
          ⟨some 17, .mv (.t 2), none⟩,
          ⟨some 18, .call 406 [0] [(.t 14), (.t 15), (.t 16), (.t 17)], none⟩] none)
        (.seq (.reg [0, 1, 2, 6, 7, 8] [] [
           ⟨some 19, .mv (.t 8), none⟩,
           ⟨some 7, .mv (.t 19), none⟩] none)
         (.reg [0, 1, 2, 6, 7, 8] [] [
           ⟨some 20, .mv (.t 8), none⟩,
           ⟨some 21, .mv (.t 6), none⟩,
           ⟨some 22, .bin .add (.t 20) (.t 21), none⟩,
           ⟨some 8, .mv (.t 22), none⟩] none))))

def pb408 : PC :=
.seq (.reg [0, 1, 2, 6] [] [
   ⟨some 6, .mv (.c (.v false (.int .i64 20))), none⟩] none)
 (.seq (.reg [0, 1, 2, 6, 7, 8] [] [
    ⟨some 10, .mv (.t 6), none⟩,
    ⟨some 7, .mv (.c (.v false (.int .i64 0))), none⟩,
    ⟨some 8, .mv (.t 10), none⟩] none)
  (.seq (.blk 0 (.loop pl408_2))
   (.seq (.reg [0, 1, 2, 6] [] [
      ⟨some 23, .mv (.t 0), none⟩,
      ⟨some 24, .mv (.t 7), none⟩,
      ⟨some 25, .mv (.t 1), none⟩,
      ⟨some 26, .mv (.t 2), none⟩,
      ⟨some 27, .call 406 [0] [(.t 23), (.t 24), (.t 25), (.t 26)], none⟩] none)
    (.blk 2 (.loop pl408_1)))))

def pf408 : PF := ⟨[], [0], pb408⟩

-- slices.swapRangeCmpFunc[int]
def pl409_0 : PC :=
.seq (.seq (.reg [0, 1, 2, 3, 10, 13] [] [
       ⟨some 11, .mv (.t 10), none⟩,
       ⟨some 12, .mv (.t 3), none⟩,
       ⟨some 13, .bin .lss (.t 11) (.t 12), none⟩] none)
     (.cond (.t 13) (.skip)
      (.exit 0)))
    (.seq (.blk 1 (.reg [0, 1, 2, 3, 10] [] [
        ⟨some 16, .mv (.t 0), none⟩,
        ⟨some 17, .mv (.t 1), none⟩,
        ⟨some 18, .mv (.t 10), none⟩,
        ⟨some 19, .bin .add (.t 17) (.t 18), none⟩,
        ⟨some 20, .mv (.t 0), none⟩,
        ⟨some 21, .mv (.t 2), none⟩,
        ⟨some 22, .mv (.t 10), none⟩,
        ⟨some 23, .bin .add (.t 21) (.t 22), none⟩,
        ⟨some 24, .mv (.t 0), none⟩,
        ⟨some 25, .mv (.t 2), none⟩,
        ⟨some 26, .mv (.t 10), none⟩,
        ⟨some 27, .bin .add (.t 25) (.t 26), none⟩,
        ⟨some 28, .iad 1 (.t 24) (.t 27), none⟩,
        ⟨some 29, .ld false 1 (.t 28), none⟩,
        ⟨some 30, .mv (.t 0), none⟩,
        ⟨some 31, .mv (.t 1), none⟩,
        ⟨some 32, .mv (.t 10), none⟩,
        ⟨some 33, .bin .add (.t 31) (.t 32), none⟩,
        ⟨some 34, .iad 1 (.t 30) (.t 33), none⟩,
        ⟨some 35, .ld false 1 (.t 34), none⟩,
        ⟨some 36, .iad 1 (.t 16) (.t 19), none⟩,
        ⟨none, .st 1 (.t 36) (.t 29), none⟩,
        ⟨some 37, .iad 1 (.t 20) (.t 23), none⟩,
        ⟨none, .st 1 (.t 37) (.t 35), none⟩] (some [])))
     (.reg [0, 1, 2, 3, 10] [] [
       ⟨some 14, .mv (.t 10), none⟩,
       ⟨some 15, .bin .add (.t 14) (.c (.v false (.int .i64 1))), none⟩,
       ⟨some 10, .mv (.t 15), none⟩] none))

def pb409 : PC :=
.seq (.reg [0, 1, 2, 3, 10] [] [
   ⟨some 10, .mv (.c (.v false (.int .i64 0))), none⟩] none)
 (.blk 0 (.loop pl409_0))

def pf409 : PF := ⟨[], [0], pb409⟩

-- slices.symMergeCmpFunc[int]
def pl410_0 : PC :=
.seq (.seq (.reg [0, 1, 2, 3, 4, 18, 19, 20, 21, 22, 23, 151] [] [
              ⟨some 149, .mv (.t 20), none⟩,
              ⟨some 150, .mv (.t 21), none⟩,
              ⟨some 151, .bin .lss (.t 149) (.t 150), none⟩] none)
            (.cond (.t 151) (.skip)
             (.exit 8)))
           (.blk 9 (.seq (.reg [0, 1, 2, 3, 4, 18, 19, 20, 21, 22, 23] [(157, 23)] [
               ⟨some 152, .mv (.t 20), none⟩,
               ⟨some 153, .mv (.t 21), none⟩,
               ⟨some 154, .bin .add (.t 152) (.t 153), none⟩,
               ⟨some 155, .cvi .u64 (.t 154), none⟩,
               ⟨some 156, .bin .shr (.t 155) (.c (.v false (.int .u64 1))), none⟩,
               ⟨some 157, .cvi .i64 (.t 156), none⟩,
               ⟨some 23, .mv (.t 157), none⟩] none)
             (.seq (.reg [0, 1, 2, 3, 4, 18, 19, 20, 21, 22, 23, 171] [] [
                ⟨some 158, .mv (.t 4), none⟩,
                ⟨some 159, .mv (.t 0), none⟩,
                ⟨some 160, .mv (.t 22), none⟩,
                ⟨some 161, .mv (.t 23), none⟩,
                ⟨some 162, .bin .sub (.t 160) (.t 161), none⟩,
                ⟨some 163, .iad 1 (.t 159) (.t 162), none⟩,
                ⟨some 164, .ld false 1 (.t 163), none⟩,
                ⟨some 165, .mv (.t 0), none⟩,
                ⟨some 166, .mv (.t 23), none⟩,
                ⟨some 167, .iad 1 (.t 165) (.t 166), none⟩,
                ⟨some 168, .ld false 1 (.t 167), none⟩,
                ⟨some 169, .callv (.t 158) [(.t 164), (.t 168)], none⟩,
                ⟨some 170, .bin .lss (.t 169) (.c (.v false (.int .i64 0))), none⟩,
                ⟨some 171, .un .not (.t 170), none⟩] (some []))
              (.cond (.t 171) (.reg [0, 1, 2, 3, 4, 18, 19, 20, 21, 22, 23] [] [
                 ⟨some 172, .mv (.t 23), none⟩,
                 ⟨some 173, .bin .add (.t 172) (.c (.v false (.int .i64 1))), none⟩,
                 ⟨some 20, .mv (.t 173), none⟩] none)
               (.reg [0, 1, 2, 3, 4, 18, 19, 20, 21, 22, 23] [] [
                 ⟨some 174, .mv (.t 23), none⟩,
                 ⟨some 21, .mv (.t 174), none⟩] none)))))

def pl410_1 : PC :=
.seq (.seq (.reg [0, 14, 17, 110] [] [
               ⟨some 108, .mv (.t 17), none⟩,
               ⟨some 109, .mv (.t 14), none⟩,
               ⟨some 110, .bin .gtr (.t 108) (.t 109), none⟩] none)
             (.cond (.t 110) (.skip)
              (.exit 6)))
            (.seq (.blk 7 (.reg [0, 14, 17] [] [
                ⟨some 113, .mv (.t 0), none⟩,
                ⟨some 114, .mv (.t 17), none⟩,
                ⟨some 115, .mv (.t 0), none⟩,
                ⟨some 116, .mv (.t 17), none⟩,
                ⟨some 117, .bin .sub (.t 116) (.c (.v false (.int .i64 1))), none⟩,
                ⟨some 118, .mv (.t 0), none⟩,
                ⟨some 119, .mv (.t 17), none⟩,
                ⟨some 120, .bin .sub (.t 119) (.c (.v false (.int .i64 1))), none⟩,
                ⟨some 121, .iad 1 (.t 118) (.t 120), none⟩,
                ⟨some 122, .ld false 1 (.t 121), none⟩,
                ⟨some 123, .mv (.t 0), none⟩,
                ⟨some 124, .mv (.t 17), none⟩,
                ⟨some 125, .iad 1 (.t 123) (.t 124), none⟩,
                ⟨some 126, .ld false 1 (.t 125), none⟩,
                ⟨some 127, .iad 1 (.t 113) (.t 114), none⟩,
                ⟨none, .st 1 (.t 127) (.t 122), none⟩,
                ⟨some 128, .iad 1 (.t 115) (.t 117), none⟩,
                ⟨none, .st 1 (.t 128) (.t 126), none⟩] (some [])))
             (.reg [0, 14, 17] [] [
               ⟨some 111, .mv (.t 17), none⟩,
               ⟨some 112, .bin .sub (.t 111) (.c (.v false (.int .i64 1))), none⟩,
               ⟨some 17, .mv (.t 112), none⟩] none))

def pl410_2 : PC :=
.seq (.seq (.reg [0, 2, 4, 14, 15, 16, 85] [] [
             ⟨some 83, .mv (.t 14), none⟩,
             ⟨some 84, .mv (.t 15), none⟩,
             ⟨some 85, .bin .lss (.t 83) (.t 84), none⟩] none)
           (.cond (.t 85) (.skip)
            (.exit 4)))
          (.blk 5 (.seq (.reg [0, 2, 4, 14, 15, 16] [(91, 16)] [
              ⟨some 86, .mv (.t 14), none⟩,
              ⟨some 87, .mv (.t 15), none⟩,
              ⟨some 88, .bin .add (.t 86) (.t 87), none⟩,
              ⟨some 89, .cvi .u64 (.t 88), none⟩,
              ⟨some 90, .bin .shr (.t 89) (.c (.v false (.int .u64 1))), none⟩,
              ⟨some 91, .cvi .i64 (.t 90), none⟩,
              ⟨some 16, .mv (.t 91), none⟩] none)
            (.seq (.reg [0, 2, 4, 14, 15, 16, 103] [] [
               ⟨some 92, .mv (.t 4), none⟩,
               ⟨some 93, .mv (.t 0), none⟩,
               ⟨some 94, .mv (.t 2), none⟩,
               ⟨some 95, .iad 1 (.t 93) (.t 94), none⟩,
               ⟨some 96, .ld false 1 (.t 95), none⟩,
               ⟨some 97, .mv (.t 0), none⟩,
               ⟨some 98, .mv (.t 16), none⟩,
               ⟨some 99, .iad 1 (.t 97) (.t 98), none⟩,
               ⟨some 100, .ld false 1 (.t 99), none⟩,
               ⟨some 101, .callv (.t 92) [(.t 96), (.t 100)], none⟩,
               ⟨some 102, .bin .lss (.t 101) (.c (.v false (.int .i64 0))), none⟩,
               ⟨some 103, .un .not (.t 102), none⟩] (some []))
             (.cond (.t 103) (.reg [0, 2, 4, 14, 15, 16] [] [
                ⟨some 104, .mv (.t 16), none⟩,
                ⟨some 105, .bin .add (.t 104) (.c (.v false (.int .i64 1))), none⟩,
                ⟨some 14, .mv (.t 105), none⟩] none)
              (.reg [0, 2, 4, 14, 15, 16] [] [
                ⟨some 106, .mv (.t 16), none⟩,
                ⟨some 15, .mv (.t 106), none⟩] none)))))

def pl410_3 : PC :=
.seq (.seq (.reg [0, 10, 13, 58] [] [
              ⟨some 55, .mv (.t 13), none⟩,
              ⟨some 56, .mv (.t 10), none⟩,
              ⟨some 57, .bin .sub (.t 56) (.c (.v false (.int .i64 1))), none⟩,
              ⟨some 58, .bin .lss (.t 55) (.t 57), none⟩] none)
            (.cond (.t 58) (.skip)
             (.exit 2)))
           (.seq (.blk 3 (.reg [0, 10, 13] [] [
               ⟨some 61, .mv (.t 0), none⟩,
               ⟨some 62, .mv (.t 13), none⟩,
               ⟨some 63, .mv (.t 0), none⟩,
               ⟨some 64, .mv (.t 13), none⟩,
               ⟨some 65, .bin .add (.t 64) (.c (.v false (.int .i64 1))), none⟩,
               ⟨some 66, .mv (.t 0), none⟩,
               ⟨some 67, .mv (.t 13), none⟩,
               ⟨some 68, .bin .add (.t 67) (.c (.v false (.int .i64 1))), none⟩,
               ⟨some 69, .iad 1 (.t 66) (.t 68), none⟩,
               ⟨some 70, .ld false 1 (.t 69), none⟩,
               ⟨some 71, .mv (.t 0), none⟩,
               ⟨some 72, .mv (.t 13), none⟩,
               ⟨some 73, .iad 1 (.t 71) (.t 72), none⟩,
               ⟨some 74, .ld false 1 (.t 73), none⟩,
               ⟨some 75, .iad 1 (.t 61) (.t 62), none⟩,
               ⟨none, .st 1 (.t 75) (.t 70), none⟩,
               ⟨some 76, .iad 1 (.t 63) (.t 65), none⟩,
               ⟨none, .st 1 (.t 76) (.t 74), none⟩] (some [])))
            (.reg [0, 10, 13] [] [
              ⟨some 59, .mv (.t 13), none⟩,
              ⟨some 60, .bin .add (.t 59) (.c (.v false (.int .i64 1))), none⟩,
              ⟨some 13, .mv (.t 60), none⟩] none))

def pl410_4 : PC :=
.seq (.seq (.reg [0, 1, 4, 10, 11, 12, 33] [] [
            ⟨some 31, .mv (.t 10), none⟩,
            ⟨some 32, .mv (.t 11), none⟩,
            ⟨some 33, .bin .lss (.t 31) (.t 32), none⟩] none)
          (.cond (.t 33) (.skip)
           (.exit 0)))
         (.blk 1 (.seq (.reg [0, 1, 4, 10, 11, 12] [(39, 12)] [
             ⟨some 34, .mv (.t 10), none⟩,
             ⟨some 35, .mv (.t 11), none⟩,
             ⟨some 36, .bin .add (.t 34) (.t 35), none⟩,
             ⟨some 37, .cvi .u64 (.t 36), none⟩,
             ⟨some 38, .bin .shr (.t 37) (.c (.v false (.int .u64 1))), none⟩,
             ⟨some 39, .cvi .i64 (.t 38), none⟩,
             ⟨some 12, .mv (.t 39), none⟩] none)
           (.seq (.reg [0, 1, 4, 10, 11, 12, 50] [] [
              ⟨some 40, .mv (.t 4), none⟩,
              ⟨some 41, .mv (.t 0), none⟩,
              ⟨some 42, .mv (.t 12), none⟩,
              ⟨some 43, .iad 1 (.t 41) (.t 42), none⟩,
              ⟨some 44, .ld false 1 (.t 43), none⟩,
              ⟨some 45, .mv (.t 0), none⟩,
              ⟨some 46, .mv (.t 1), none⟩,
              ⟨some 47, .iad 1 (.t 45) (.t 46), none⟩,
              ⟨some 48, .ld false 1 (.t 47), none⟩,
              ⟨some 49, .callv (.t 40) [(.t 44), (.t 48)], none⟩,
              ⟨some 50, .bin .lss (.t 49) (.c (.v false (.int .i64 0))), none⟩] (some []))
            (.cond (.t 50) (.reg [0, 1, 4, 10, 11, 12] [] [
               ⟨some 51, .mv (.t 12), none⟩,
               ⟨some 52, .bin .add (.t 51) (.c (.v false (.int .i64 1))), none⟩,
               ⟨some 10, .mv (.t 52), none⟩] none)
             (.reg [0, 1, 4, 10, 11, 12] [] [
               ⟨some 53, .mv (.t 12), none⟩,
               ⟨some 11, .mv (.t 53), none⟩] none)))))

def pb410 : PC :=
.seq (.seq (.reg [0, 1, 2, 3, 4, 28] [] [
    ⟨some 25, .mv (.t 2), none⟩,
    ⟨some 26, .mv (.t 1), none⟩,
    ⟨some 27, .bin .sub (.t 25) (.t 26), none⟩,
    ⟨some 28, .bin .eql (.t 27) (.c (.v false (.int .i64 1))), none⟩] none)
  (.cond (.t 28) (.seq (.reg [0, 1, 3, 4, 10] [] [
      ⟨some 29, .mv (.t 2), none⟩,
      ⟨some 10, .mv (.t 29), none⟩] none)
    (.seq (.reg [0, 1, 4, 10, 11] [] [
       ⟨some 30, .mv (.t 3), none⟩,
       ⟨some 11, .mv (.t 30), none⟩] none)
     (.seq (.blk 0 (.loop pl410_4))
      (.seq (.seq (.reg [0, 10, 13] [] [
          ⟨some 54, .mv (.t 1), none⟩,
          ⟨some 13, .mv (.t 54), none⟩] none)
        (.blk 2 (.loop pl410_3)))
       (.ret)))))
   (.skip)))
 (.seq (.seq (.reg [0, 1, 2, 3, 4, 80] [] [
     ⟨some 77, .mv (.t 3), none⟩,
     ⟨some 78, .mv (.t 2), none⟩,
     ⟨some 79, .bin .sub (.t 77) (.t 78), none⟩,
     ⟨some 80, .bin .eql (.t 79) (.c (.v false (.int .i64 1))), none⟩] none)
   (.cond (.t 80) (.seq (.reg [0, 2, 4, 14] [] [
       ⟨some 81, .mv (.t 1), none⟩,
       ⟨some 14, .mv (.t 81), none⟩] none)
     (.seq (.reg [0, 2, 4, 14, 15] [] [
        ⟨some 82, .mv (.t 2), none⟩,
        ⟨some 15, .mv (.t 82), none⟩] none)
      (.seq (.blk 4 (.loop pl410_2))
       (.seq (.seq (.reg [0, 14, 17] [] [
           ⟨some 107, .mv (.t 2), none⟩,
           ⟨some 17, .mv (.t 107), none⟩] none)
         (.blk 6 (.loop pl410_1)))
        (.ret)))))
    (.skip)))
  (.seq (.reg [0, 1, 2, 3, 4, 18] [(134, 18)] [
     ⟨some 129, .mv (.t 1), none⟩,
     ⟨some 130, .mv (.t 3), none⟩,
     ⟨some 131, .bin .add (.t 129) (.t 130), none⟩,
     ⟨some 132, .cvi .u64 (.t 131), none⟩,
     ⟨some 133, .bin .shr (.t 132) (.c (.v false (.int .u64 1))), none⟩,
     ⟨some 134, .cvi .i64 (.t 133), none⟩,
     ⟨some 18, .mv (.t 134), none⟩] none)
   (.seq (.reg [0, 1, 2, 3, 4, 18, 19] [] [
      ⟨some 135, .mv (.t 18), none⟩,
      ⟨some 136, .mv (.t 2), none⟩,
      ⟨some 137, .bin .add (.t 135) (.t 136), none⟩,
      ⟨some 19, .mv (.t 137), none⟩] none)
    (.seq (.reg [0, 1, 2, 3, 4, 18, 19] [] [
       ⟨some 20, .mv (.c (.v false (.int .i64 0))), none⟩,
       ⟨some 21, .mv (.c (.v false (.int .i64 0))), none⟩] none)
     (.seq (.seq (.reg [0, 1, 2, 3, 4, 18, 19, 140] [] [
         ⟨some 138, .mv (.t 2), none⟩,
         ⟨some 139, .mv (.t 18), none⟩,
         ⟨some 140, .bin .gtr (.t 138) (.t 139), none⟩] none)
       (.cond (.t 140) (.seq (.reg [0, 1, 2, 3, 4, 18, 19, 20] [] [
           ⟨some 141, .mv (.t 19), none⟩,
           ⟨some 142, .mv (.t 3), none⟩,
           ⟨some 143, .bin .sub (.t 141) (.t 142), none⟩,
           ⟨some 20, .mv (.t 143), none⟩] none)
         (.reg [0, 1, 2, 3, 4, 18, 19, 20, 21] [] [
           ⟨some 144, .mv (.t 18), none⟩,
           ⟨some 21, .mv (.t 144), none⟩] none))
        (.seq (.reg [0, 1, 2, 3, 4, 18, 19, 20] [] [
           ⟨some 145, .mv (.t 1), none⟩,
           ⟨some 20, .mv (.t 145), none⟩] none)
         (.reg [0, 1, 2, 3, 4, 18, 19, 20, 21] [] [
           ⟨some 146, .mv (.t 2), none⟩,
           ⟨some 21, .mv (.t 146), none⟩] none))))
      (.seq (.reg [0, 1, 2, 3, 4, 18, 19, 20, 21, 22] [] [
         ⟨some 147, .mv (.t 19), none⟩,
         ⟨some 148, .bin .sub (.t 147) (.c (.v false (.int .i64 1))), none⟩,
         ⟨some 22, .mv (.t 148), none⟩] none)
       (.seq (.blk 8 (.loop pl410_0))
        (.seq (.reg [0, 1, 2, 3, 4, 18, 20, 24] [] [
           ⟨some 175, .mv (.t 19), none⟩,
           ⟨some 176, .mv (.t 20), none⟩,
           ⟨some 177, .bin .sub (.t 175) (.t 176), none⟩,
           ⟨some 24, .mv (.t 177), none⟩] none)
         (.seq (.seq (.reg [0, 1, 2, 3, 4, 18, 20, 24, 185] [] [
             ⟨some 178, .mv (.t 20), none⟩,
             ⟨some 179, .mv (.t 2), none⟩,
             ⟨some 180, .bin .lss (.t 178) (.t 179), none⟩,
             ⟨some 181, .mv (.t 180), none⟩,
             ⟨some 182, .mv (.t 2), some (181, true)⟩,
             ⟨some 183, .mv (.t 24), some (181, true)⟩,
             ⟨some 184, .bin .lss (.t 182) (.t 183), some (181, true)⟩,
             ⟨some 185, .pick (.t 181) (.t 184) (.c (.v false (.bool false))), none⟩] none)
           (.cond (.t 185) (.reg [0, 1, 3, 4, 18, 20, 24] [] [
              ⟨some 186, .mv (.t 0), none⟩,
              ⟨some 187, .mv (.t 20), none⟩,
              ⟨some 188, .mv (.t 2), none⟩,
              ⟨some 189, .mv (.t 24), none⟩,
              ⟨some 190, .mv (.t 4), none⟩,
              ⟨some 191, .call 407 [0] [(.t 186), (.t 187), (.t 188), (.t 189), (.t 190)], none⟩] none)
            (.skip)))
          (.seq (.seq (.reg [0, 1, 3, 4, 18, 20, 24, 199] [] [
              ⟨some 192, .mv (.t 1), none⟩,
              ⟨some 193, .mv (.t 20), none⟩,
              ⟨some 194, .bin .lss (.t 192) (.t 193), none⟩,
              ⟨some 195, .mv (.t 194), none⟩,
              ⟨some 196, .mv (.t 20), some (195, true)⟩,
              ⟨some 197, .mv (.t 18), some (195, true)⟩,
              ⟨some 198, .bin .lss (.t 196) (.t 197), some (195, true)⟩,
              ⟨some 199, .pick (.t 195) (.t 198) (.c (.v false (.bool false))), none⟩] none)
            (.cond (.t 199) (.reg [0, 3, 4, 18, 24] [] [
               ⟨some 200, .mv (.t 0), none⟩,
               ⟨some 201, .mv (.t 1), none⟩,
               ⟨some 202, .mv (.t 20), none⟩,
               ⟨some 203, .mv (.t 18), none⟩,
               ⟨some 204, .mv (.t 4), none⟩,
               ⟨some 205, .call 410 [0] [(.t 200), (.t 201), (.t 202), (.t 203), (.t 204)], none⟩] none)
             (.skip)))
           (.seq (.reg [0, 3, 4, 18, 24, 213] [] [
              ⟨some 206, .mv (.t 18), none⟩,
              ⟨some 207, .mv (.t 24), none⟩,
              ⟨some 208, .bin .lss (.t 206) (.t 207), none⟩,
              ⟨some 209, .mv (.t 208), none⟩,
              ⟨some 210, .mv (.t 24), some (209, true)⟩,
              ⟨some 211, .mv (.t 3), some (209, true)⟩,
              ⟨some 212, .bin .lss (.t 210) (.t 211), some (209, true)⟩,
              ⟨some 213, .pick (.t 209) (.t 212) (.c (.v false (.bool false))), none⟩] none)
            (.cond (.t 213) (.reg [0] [] [
               ⟨some 214, .mv (.t 0), none⟩,
               ⟨some 215, .mv (.t 18), none⟩,
               ⟨some 216, .mv (.t 24), none⟩,
               ⟨some 217, .mv (.t 3), none⟩,
               ⟨some 218, .mv (.t 4), none⟩,
               ⟨some 219, .call 410 [0] [(.t 214), (.t 215), (.t 216), (.t 217), (.t 218)], none⟩] none)
             (.skip)))))))))))))

def pf410 : PF := ⟨[], [0], pb410⟩

end Go.Proofs.Ytkgibccknlbiaaa.OM
