/- The texts of the functions, as the own machine runs them. -/
import Derived.Test.YtcgekefbkccelaaGreatOMAbb
set_option linter.all false
namespace Go.Proofs.YtcgekefbkccelaaGreat.OM
set_option maxRecDepth 100000

def pl40_0 : PC :=
.seq (Ar [1,7,8,9,10] [Ab .lss 10 9 8]) (.seq (Aj 10 0) (.seq (.blk 1 (.seq (Ar [1,5,6,7,8,9] [Am 11 9,Ai 25 12 7 9,AL' 25 13 12,⟨some 6,.alloc [A0,A0,(.nl 3),A0,A0,A0,A0,A0,A0,A0,A1,(.nl 7),A0,(.nl 1),(.nl 2),A0,(.v false (.bool false)),A0,A0,A1,A0,A0,A0,A0,A0],none⟩,Am 5 11,As 25 6 13]) (.seq (Ar [1,5,7,8,9,26] [Am 14 1,Ae .geq 15 14 0,Am 16 15,Ag 17 (.fad (.t 6) 0) 16,Ag 18 (.ld false 1 (.t 17)) 16,Ag 19 (.bin .eql (.t 18) (Av 1)) 16,Ap2 20 16 19 false,Am 21 20,Ag 22 (.fad (.t 6) 3) 21,Ag 23 (.ld false 1 (.t 22)) 21,Ag 24 (.mv (.t 1)) 21,Ag 25 (.bin .eql (.t 23) (.t 24)) 21,Ap2 26 21 25 false]) (.cond (.t 26) (.seq (Ar [4] [Am 27 5,Am 4 27]) .ret) .skip)))) (Ar [1,7,8,9] [Ae .add 28 9 1,Am 9 28])))
def pb40 : PC :=
.seq (Ar [0,1] [Ak 4 0]) (.seq (.seq (Ar [1,7,8,9] [Am 7 0,Az 8 7,Ak 9 0]) (.blk 0 (.loop pl40_0))) (.seq (Ar [4] [Ak 4 (-1)]) .ret))
def pf40 : PF := ⟨[.s 4],[],pb40⟩

def pb54 : PC :=
.seq (Ar [0,1] [Ak 4 0,Ao 5 (.mv (Aw false))]) (.seq (.seq (Ar [0,1,11] [Am 6 0,Ae .eql 7 6 (-1),Am 8 7,Ag 9 (.mv (.t 1)) 8,Ag 10 (.bin .gtr (.t 9) (Av 0)) 8,Ap2 11 8 10 false]) (.cond (.t 11) (.seq (Ar [4,5] [Am 12 1,Am 4 12,Ao 5 (.mv (Aw true))]) .ret) .skip)) (.seq (Ar [4,5] [Am 13 0,Am 4 13,Ao 5 (.mv (Aw false))]) .ret))
def pf54 : PF := ⟨[.s 4,.s 5],[],pb54⟩

def pb55 : PC :=
.seq (Ar [1,2,3,6] [Ao 3 (.box 2 (.t 0)),Ao 6 (.alloc [A0,(.nl 2)]),Ao 7 (.mv (Aw false))]) (.seq (Ar [1,2,3,6,8] [AL' 2 11 3,Ac1 70 12 11,Ao 8 (.alloc [A0,(.nl 2)]),As 2 8 12]) (.seq (.seq (Ar [1,2,3,6,8,16] [AL' 2 13 3,Am 14 1,Ac2 78 15 13 14,At 16 15]) (.cond (.t 16) (.seq (Ar [6,7] [AL' 2 17 8,As 2 6 17,Ao 7 (.mv (Aw false))]) .ret) .skip)) (.seq (An1 [1,6,8,9,10] 26 9 [Af 19 3 1,Al 20 19,Am 21 1,Ai 2 22 20 21,Af 23 22 0,Al 24 23,Am 25 2,Ac2 54 26 24 25,Am 18 26,Ax 27 18 0,Ax 28 18 1,Am 9 27,Am 10 28]) (.seq (Ar [6,8,9,10] [Af 29 8 1,Al 30 29,Am 31 1,Am 32 9,Ai 2 33 30 31,Af 34 33 0,As 1 34 32]) (.seq (Ar [6,7,9] [AL' 2 35 8,Am 36 10,As 2 6 35,Am 7 36]) .ret)))))
def pf55 : PF := ⟨[.b 6 2 true,.s 7],[],pb55⟩

def pb59 : PC :=
.seq (Ar [2,3] [Ao 2 (.box 14 (.t 0)),Ao 3 (.box 5 (.t 1)),Ao 4 (.mv (Aw false))]) (.seq (.seq (Ar [2,3,16] [Af 6 3 0,Al 7 6,Ae .lss 8 7 0,Am 9 8,Ah 10 (.fad (.t 3) 0) 9,Ah 11 (.ld false 1 (.t 10)) 9,Ah 12 (.fad (.t 2) 8) 9,Ah 13 (.ld false 1 (.t 12)) 9,Ah 14 (.len (.t 13)) 9,Ah 15 (.bin .geq (.t 11) (.t 14)) 9,Ap1 16 9 true 15]) (.cond (.t 16) (.seq (Ar [4] [Ao 4 (.mv (Aw false))]) .ret) .skip)) (.seq (Ar [3,5] [Af 17 2 8,Al 18 17,Af 19 3 0,Al 20 19,Ai 5 21 18 20,AL' 5 22 21,Ao 5 (.alloc [A0,A0,A0,(.nl 2),(.nl 1)]),As 5 5 22]) (.seq (Ar [4] [Af 23 5 0,Al 24 23,Af 25 3 1,Al 26 25,Ab .eql 27 24 26,Am 28 27,Ag 29 (.fad (.t 5) 1) 28,Ag 30 (.ld false 1 (.t 29)) 28,Ag 31 (.fad (.t 3) 2) 28,Ag 32 (.ld false 1 (.t 31)) 28,Ag 33 (.bin .eql (.t 30) (.t 32)) 28,Ap2 34 28 33 false,Am 35 34,Ag 36 (.fad (.t 3) 2) 35,Ag 37 (.ld false 1 (.t 36)) 35,Ag 38 (.bin .neq (.t 37) (Av 1)) 35,Ag 39 (.mv (.t 38)) 35,Ah 40 (.fad (.t 5) 2) 39,Ah 41 (.fad (.t 40) 1) 39,Ah 42 (.ld false 1 (.t 41)) 39,Ah 43 (.len (.t 42)) 39,Ah 44 (.fad (.t 3) 4) 39,Ah 45 (.ld false 1 (.t 44)) 39,Ah 46 (.bin .eql (.t 43) (.t 45)) 39,Ag 47 (.pick (.t 39) (Aw true) (.t 46)) 35,Ap2 48 35 47 false,Am 4 48]) .ret)))
def pf59 : PF := ⟨[.s 4],[],pb59⟩

def pb68 : PC :=
.seq (Ar [2,3,4] [Ao 2 (.box 14 (.t 0)),Ao 3 (.box 5 (.t 1)),Ao 4 (.alloc [A0,(.nl 2)]),Ao 5 (.mv (Aw false))]) (.seq (.seq (Ar [2,3,4,14] [Af 6 3 2,Al 7 6,Ae .neq 8 7 1,Am 9 8,Ah 10 (.ld true 14 (.t 2)) 9,Ah 11 (.ld true 5 (.t 3)) 9,Ah 12 (.call 59 [] [(.t 10),(.t 11)]) 9,Ah 13 (.un .not (.t 12)) 9,Ap1 14 9 true 13]) (.cond (.t 14) (.seq (Ar [4,5] [Ao 15 (.build [A0,(.nl 2)] []),As 2 4 15,Ao 5 (.mv (Aw false))]) .ret) .skip)) (.seq (Ar [4,5] [Af 16 2 8,Al 17 16,Af 18 3 0,Al 19 18,Ai 5 20 17 19,Af 21 20 2,AL' 2 22 21,As 2 4 22,Ao 5 (.mv (Aw true))]) .ret))
def pf68 : PF := ⟨[.b 4 2 true,.s 5],[],pb68⟩

def pb69 : PC :=
.seq (Ar [0] [Ao 2 (.mv (.c (.nl 1)))]) (.seq (An1 [2] 5 2 [Ao 3 (.bsl 1 [] 0 []),Am 4 0,Ao 5 (.app 1 1 (.t 3) (.t 4)),Am 2 5]) .ret)
def pf69 : PF := ⟨[.s 2],[],pb69⟩

def pl70_0 : PC :=
.seq (Ar [1,2,3,10,11,12,13] [Ab .lss 13 12 11]) (.seq (Aj 13 0) (.seq (.blk 1 (.seq (Ar [1,2,3,5,10,11,12] [Ai 2 14 10 12,AL' 2 15 14,Ao 5 (.alloc [A0,(.nl 3)]),As 2 5 15]) (.reg [1,2,3,10,11,12] [] [Af 16 3 1,Al 17 16,Af 18 5 0,Al 19 18,Af 20 5 1,Al 21 20,Ac1 76 22 21,Ao 23 (.build [A0,(.nl 3)] [(0,1,(.t 19)),(1,1,(.t 22))]),Ao 24 (.bsl 2 [A2,.sl 3 []] 1 [(0,(.t 23))]),Ao 25 (.app 2 32 (.t 17) (.t 24)),Af 26 3 1,As 1 26 25] (some [(1,6),(3,6),(1,8)])))) (Ar [1,2,3,10,11,12] [Ae .add 27 12 1,Am 12 27])))
def pb70 : PC :=
.seq (Ar [1,2] [Ao 1 (.box 2 (.t 0)),Ao 2 (.alloc [A0,(.nl 2)])]) (.seq (Ar [1,2,3] [Af 6 1 0,Al 7 6,Ao 8 (.build [A0,(.nl 2)] [(0,1,(.t 7))]),Ao 3 (.alloc [A0,(.nl 2)]),As 2 3 8]) (.seq (.seq (Ar [1,2,3,10,11,12] [Af 9 1 1,Al 10 9,Az 11 10,Ak 12 0]) (.blk 0 (.loop pl70_0))) (.seq (Ar [2] [AL' 2 28 3,As 2 2 28]) .ret)))
def pf70 : PF := ⟨[.b 2 2 true],[],pb70⟩

def pb71 : PC :=
.seq (Ar [1,2] [Ao 1 (.box 2 (.t 0)),Ao 2 (.alloc [A0,(.nl 5)])]) (.seq (.reg [2] [] [Af 3 1 0,Al 4 3,Af 5 1 1,Al 6 5,Ac1 74 7 6,Ao 8 (.build [A0,(.nl 5)] [(0,1,(.t 4)),(1,1,(.t 7))]),As 2 2 8] (some [(1,4)])) .ret)
def pf71 : PF := ⟨[.b 2 2 true],[],pb71⟩

def pb72 : PC :=
.seq (Ar [0] [Ao 2 (.mv (.c (.nl 1)))]) (.seq (An1 [2] 5 2 [Ao 3 (.bsl 1 [] 0 []),Am 4 0,Ao 5 (.app 1 8 (.t 3) (.t 4)),Am 2 5]) .ret)
def pf72 : PF := ⟨[.s 2],[],pb72⟩

def pl73_0 : PC :=
.seq (Ar [3,7,8,9,10] [Ab .lss 10 9 8]) (.seq (Aj 10 0) (.seq (.blk 1 (.seq (Ar [3,5,7,8,9] [Ai 5 11 7 9,AL' 5 12 11,Ao 5 (.alloc [A0,A0,A0,(.nl 2),(.nl 1)]),As 5 5 12]) (.reg [3,7,8,9] [(26,3)] [Am 13 3,Af 14 5 0,Al 15 14,Af 16 5 1,Al 17 16,Af 18 5 2,AL' 2 19 18,Ac1 70 20 19,Af 21 5 4,Al 22 21,Ac1 69 23 22,Ao 24 (.build [A0,A0,A0,(.nl 2),(.nl 1)] [(0,1,(.t 15)),(1,1,(.t 17)),(2,2,(.t 20)),(4,1,(.t 23))]),Ao 25 (.bsl 5 [A2,A2,A2,.sl 2 [],.sl 1 []] 1 [(0,(.t 24))]),Ao 26 (.app 5 72 (.t 13) (.t 25)),Am 3 26] (some [(2,7),(4,7),(7,9),(2,10),(4,10)])))) (Ar [3,7,8,9] [Ae .add 27 9 1,Am 9 27])))
def pb73 : PC :=
.seq (Ar [0] [Ao 2 (.mv (.c (.nl 5)))]) (.seq (An1 [0,3] 6 3 [Ao 6 (.bsl 5 [] 0 []),Am 3 6]) (.seq (.seq (Ar [3,7,8,9] [Am 7 0,Az 8 7,Ak 9 0]) (.blk 0 (.loop pl73_0))) (.seq (Ar [2,3] [Am 28 3,Am 2 28]) .ret)))
def pf73 : PF := ⟨[.s 2],[],pb73⟩

def pb74 : PC :=
.seq (Ar [0] [Ao 2 (.mv (.c (.nl 5)))]) (.seq (An1 [2] 5 2 [Ao 3 (.bsl 5 [] 0 []),Am 4 0,Ao 5 (.app 5 40 (.t 3) (.t 4)),Am 2 5]) .ret)
def pf74 : PF := ⟨[.s 2],[],pb74⟩

def pb75 : PC :=
.seq (Ar [1,2] [Ao 1 (.box 2 (.t 0)),Ao 2 (.alloc [A0,(.nl 3)])]) (.seq (.reg [2] [] [Af 3 1 0,Al 4 3,Af 5 1 1,Al 6 5,Ac1 76 7 6,Ao 8 (.build [A0,(.nl 3)] [(0,1,(.t 4)),(1,1,(.t 7))]),As 2 2 8] (some [(1,4)])) .ret)
def pf75 : PF := ⟨[.b 2 2 true],[],pb75⟩

def pb76 : PC :=
.seq (Ar [0] [Ao 2 (.mv (.c (.nl 3)))]) (.seq (An1 [2] 5 2 [Ao 3 (.bsl 3 [] 0 []),Am 4 0,Ao 5 (.app 3 32 (.t 3) (.t 4)),Am 2 5]) .ret)
def pf76 : PF := ⟨[.s 2],[],pb76⟩

def pb78 : PC :=
.seq (Ar [1,2] [Ao 2 (.box 2 (.t 0)),Ao 4 (.mv (Aw false))]) (.seq (Ar [4] [Am 5 1,Ae .geq 6 5 0,Am 7 6,Ag 8 (.mv (.t 1)) 7,Ag 9 (.fad (.t 2) 1) 7,Ag 10 (.ld false 1 (.t 9)) 7,Ag 11 (.len (.t 10)) 7,Ag 12 (.bin .lss (.t 8) (.t 11)) 7,Ap2 13 7 12 false,Am 4 13]) .ret)
def pf78 : PF := ⟨[.s 4],[],pb78⟩

def pb142 : PC :=
.seq (Ar [2,3] [Ao 2 (.box 5 (.t 0)),Ao 3 (.box 5 (.t 1)),Ao 4 (.mv (Aw false))]) (.seq (.seq (Ar [2,3,9] [Af 5 2 0,Al 6 5,Af 7 3 0,Al 8 7,Ab .neq 9 6 8]) (.cond (.t 9) (.seq (Ar [4] [Ao 4 (.mv (Aw false))]) .ret) .skip)) (.seq (.seq (Ar [2,3,14] [Af 10 2 1,Al 11 10,Af 12 3 1,Al 13 12,Ab .neq 14 11 13]) (.cond (.t 14) (.seq (Ar [4] [Ao 4 (.mv (Aw false))]) .ret) .skip)) (.seq (.seq (Ar [2,3,20] [Af 15 2 2,AL' 2 16 15,Af 17 3 2,AL' 2 18 17,Ac2 145 19 16 18,At 20 19]) (.cond (.t 20) (.seq (Ar [4] [Ao 4 (.mv (Aw false))]) .ret) .skip)) (.seq (.seq (Ar [26] [Af 21 2 4,Al 22 21,Af 23 3 4,Al 24 23,Ac2 144 25 22 24,At 26 25]) (.cond (.t 26) (.seq (Ar [4] [Ao 4 (.mv (Aw false))]) .ret) .skip)) (.seq (Ar [4] [Ao 4 (.mv (Aw true))]) .ret)))))
def pf142 : PF := ⟨[.s 4],[],pb142⟩

def pl143_0 : PC :=
.seq (.seq (Ar [0,1,5,14] [Am 11 5,Am 12 0,Az 13 12,Ab .lss 14 11 13]) (Aj 14 0)) (.seq (.blk 1 (.seq (Aq [0,1,5,26] [Am 17 0,Am 18 5,Ai 5 19 17 18,AL' 5 20 19,Am 21 1,Am 22 5,Ai 5 23 21 22,AL' 5 24 23,Ac2 142 25 20 24,At 26 25]) (.cond (.t 26) (.seq (Ar [4] [Ao 4 (.mv (Aw false))]) .ret) .skip))) (Ar [0,1,5] [Am 15 5,Ae .add 16 15 1,Am 5 16]))
def pb143 : PC :=
.seq (Ar [0,1] [Ao 4 (.mv (Aw false))]) (.seq (.seq (Ar [0,1,10] [Am 6 0,Az 7 6,Am 8 1,Az 9 8,Ab .neq 10 7 9]) (.cond (.t 10) (.seq (Ar [4] [Ao 4 (.mv (Aw false))]) .ret) .skip)) (.seq (.seq (Ar [0,1,5] [Ak 5 0]) (.blk 0 (.loop pl143_0))) (.seq (Ar [4] [Ao 4 (.mv (Aw true))]) .ret)))
def pf143 : PF := ⟨[.s 4],[],pb143⟩

def pl144_0 : PC :=
.seq (.seq (Ar [0,1,5,14] [Am 11 5,Am 12 0,Az 13 12,Ab .lss 14 11 13]) (Aj 14 0)) (.seq (.blk 1 (.seq (Aq [0,1,5,25] [Am 17 0,Am 18 5,Ai 1 19 17 18,Al 20 19,Am 21 1,Am 22 5,Ai 1 23 21 22,Al 24 23,Ab .neq 25 20 24]) (.cond (.t 25) (.seq (Ar [4] [Ao 4 (.mv (Aw false))]) .ret) .skip))) (Ar [0,1,5] [Am 15 5,Ae .add 16 15 1,Am 5 16]))
def pb144 : PC :=
.seq (Ar [0,1] [Ao 4 (.mv (Aw false))]) (.seq (.seq (Ar [0,1,10] [Am 6 0,Az 7 6,Am 8 1,Az 9 8,Ab .neq 10 7 9]) (.cond (.t 10) (.seq (Ar [4] [Ao 4 (.mv (Aw false))]) .ret) .skip)) (.seq (.seq (Ar [0,1,5] [Ak 5 0]) (.blk 0 (.loop pl144_0))) (.seq (Ar [4] [Ao 4 (.mv (Aw true))]) .ret)))
def pf144 : PF := ⟨[.s 4],[],pb144⟩

def pb145 : PC :=
.seq (Ar [2,3] [Ao 2 (.box 2 (.t 0)),Ao 3 (.box 2 (.t 1)),Ao 4 (.mv (Aw false))]) (.seq (.seq (Ar [2,3,9] [Af 5 2 0,Al 6 5,Af 7 3 0,Al 8 7,Ab .neq 9 6 8]) (.cond (.t 9) (.seq (Ar [4] [Ao 4 (.mv (Aw false))]) .ret) .skip)) (.seq (.seq (Ar [15] [Af 10 2 1,Al 11 10,Af 12 3 1,Al 13 12,Ac2 162 14 11 13,At 15 14]) (.cond (.t 15) (.seq (Ar [4] [Ao 4 (.mv (Aw false))]) .ret) .skip)) (.seq (Ar [4] [Ao 4 (.mv (Aw true))]) .ret)))
def pf145 : PF := ⟨[.s 4],[],pb145⟩

def pb146 : PC :=
.seq (Ar [2,3] [Ao 2 (.box 3 (.t 0)),Ao 3 (.box 3 (.t 1)),Ao 4 (.mv (Aw false))]) (.seq (.seq (Ar [2,3,10] [Af 5 2 0,Al 6 5,Af 7 3 0,Al 8 7,Ac2 152 9 6 8,At 10 9]) (.cond (.t 10) (.seq (Ar [4] [Ao 4 (.mv (Aw false))]) .ret) .skip)) (.seq (.seq (Ar [2,3,15] [Af 11 2 1,Al 12 11,Af 13 3 1,Al 14 13,Ab .neq 15 12 14]) (.cond (.t 15) (.seq (Ar [4] [Ao 4 (.mv (Aw false))]) .ret) .skip)) (.seq (.seq (Ar [20] [Af 16 2 2,Al 17 16,Af 18 3 2,Al 19 18,Ab .neq 20 17 19]) (.cond (.t 20) (.seq (Ar [4] [Ao 4 (.mv (Aw false))]) .ret) .skip)) (.seq (Ar [4] [Ao 4 (.mv (Aw true))]) .ret))))
def pf146 : PF := ⟨[.s 4],[],pb146⟩

def pb147 : PC :=
.seq (Ar [2,3] [Ao 2 (.box 3 (.t 0)),Ao 3 (.box 3 (.t 1)),Ao 4 (.mv (Aw false))]) (.seq (.seq (Ar [2,3,9] [Af 5 2 0,Al 6 5,Af 7 3 0,Al 8 7,Ab .neq 9 6 8]) (.cond (.t 9) (.seq (Ar [4] [Ao 4 (.mv (Aw false))]) .ret) .skip)) (.seq (.seq (Ar [2,3,14] [Af 10 2 1,Al 11 10,Af 12 3 1,Al 13 12,Ab .neq 14 11 13]) (.cond (.t 14) (.seq (Ar [4] [Ao 4 (.mv (Aw false))]) .ret) .skip)) (.seq (.seq (Ar [19] [Af 15 2 2,Al 16 15,Af 17 3 2,Al 18 17,Ab .neq 19 16 18]) (.cond (.t 19) (.seq (Ar [4] [Ao 4 (.mv (Aw false))]) .ret) .skip)) (.seq (Ar [4] [Ao 4 (.mv (Aw true))]) .ret))))
def pf147 : PF := ⟨[.s 4],[],pb147⟩

def pl148_0 : PC :=
.seq (.seq (Ar [0,1,5,14] [Am 11 5,Am 12 0,Az 13 12,Ab .lss 14 11 13]) (Aj 14 0)) (.seq (.blk 1 (.seq (Aq [0,1,5,26] [Am 17 0,Am 18 5,Ai 3 19 17 18,AL' 3 20 19,Am 21 1,Am 22 5,Ai 3 23 21 22,AL' 3 24 23,Ac2 147 25 20 24,At 26 25]) (.cond (.t 26) (.seq (Ar [4] [Ao 4 (.mv (Aw false))]) .ret) .skip))) (Ar [0,1,5] [Am 15 5,Ae .add 16 15 1,Am 5 16]))
def pb148 : PC :=
.seq (Ar [0,1] [Ao 4 (.mv (Aw false))]) (.seq (.seq (Ar [0,1,10] [Am 6 0,Az 7 6,Am 8 1,Az 9 8,Ab .neq 10 7 9]) (.cond (.t 10) (.seq (Ar [4] [Ao 4 (.mv (Aw false))]) .ret) .skip)) (.seq (.seq (Ar [0,1,5] [Ak 5 0]) (.blk 0 (.loop pl148_0))) (.seq (Ar [4] [Ao 4 (.mv (Aw true))]) .ret)))
def pf148 : PF := ⟨[.s 4],[],pb148⟩

def pb149 : PC :=
.seq (Ar [2,3] [Ao 2 (.box 25 (.t 0)),Ao 3 (.box 25 (.t 1)),Ao 4 (.mv (Aw false))]) (.seq (.seq (Ar [2,3,9] [Af 5 2 0,Al 6 5,Af 7 3 0,Al 8 7,Ab .neq 9 6 8]) (.cond (.t 9) (.seq (Ar [4] [Ao 4 (.mv (Aw false))]) .ret) .skip)) (.seq (.seq (Ar [2,3,14] [Af 10 2 1,Al 11 10,Af 12 3 1,Al 13 12,Ab .neq 14 11 13]) (.cond (.t 14) (.seq (Ar [4] [Ao 4 (.mv (Aw false))]) .ret) .skip)) (.seq (.seq (Ar [2,3,20] [Af 15 2 2,Al 16 15,Af 17 3 2,Al 18 17,Ac2 166 19 16 18,At 20 19]) (.cond (.t 20) (.seq (Ar [4] [Ao 4 (.mv (Aw false))]) .ret) .skip)) (.seq (.seq (Ar [2,3,25] [Af 21 2 3,Al 22 21,Af 23 3 3,Al 24 23,Ab .neq 25 22 24]) (.cond (.t 25) (.seq (Ar [4] [Ao 4 (.mv (Aw false))]) .ret) .skip)) (.seq (.seq (Ar [2,3,31] [Af 26 2 4,AL' 10 27 26,Af 28 3 4,AL' 10 29 28,Ac2 155 30 27 29,At 31 30]) (.cond (.t 31) (.seq (Ar [4] [Ao 4 (.mv (Aw false))]) .ret) .skip)) (.seq (.seq (Ar [2,3,37] [Af 32 2 14,AL' 6 33 32,Af 34 3 14,AL' 6 35 34,Ac2 158 36 33 35,At 37 36]) (.cond (.t 37) (.seq (Ar [4] [Ao 4 (.mv (Aw false))]) .ret) .skip)) (.seq (.seq (Ar [2,3,42] [Af 38 2 20,Al 39 38,Af 40 3 20,Al 41 40,Ab .neq 42 39 41]) (.cond (.t 42) (.seq (Ar [4] [Ao 4 (.mv (Aw false))]) .ret) .skip)) (.seq (.seq (Ar [2,3,47] [Af 43 2 21,Al 44 43,Af 45 3 21,Al 46 45,Ab .neq 47 44 46]) (.cond (.t 47) (.seq (Ar [4] [Ao 4 (.mv (Aw false))]) .ret) .skip)) (.seq (.seq (Ar [2,3,52] [Af 48 2 22,Al 49 48,Af 50 3 22,Al 51 50,Ab .neq 52 49 51]) (.cond (.t 52) (.seq (Ar [4] [Ao 4 (.mv (Aw false))]) .ret) .skip)) (.seq (.seq (Ar [2,3,57] [Af 53 2 23,Al 54 53,Af 55 3 23,Al 56 55,Ab .neq 57 54 56]) (.cond (.t 57) (.seq (Ar [4] [Ao 4 (.mv (Aw false))]) .ret) .skip)) (.seq (.seq (Ar [62] [Af 58 2 24,Al 59 58,Af 60 3 24,Al 61 60,Ab .neq 62 59 61]) (.cond (.t 62) (.seq (Ar [4] [Ao 4 (.mv (Aw false))]) .ret) .skip)) (.seq (Ar [4] [Ao 4 (.mv (Aw true))]) .ret))))))))))))
def pf149 : PF := ⟨[.s 4],[],pb149⟩

def pl150_0 : PC :=
.seq (.seq (Ar [0,1,5,14] [Am 11 5,Am 12 0,Az 13 12,Ab .lss 14 11 13]) (Aj 14 0)) (.seq (.blk 1 (.seq (Aq [0,1,5,26] [Am 17 0,Am 18 5,Ai 25 19 17 18,AL' 25 20 19,Am 21 1,Am 22 5,Ai 25 23 21 22,AL' 25 24 23,Ac2 149 25 20 24,At 26 25]) (.cond (.t 26) (.seq (Ar [4] [Ao 4 (.mv (Aw false))]) .ret) .skip))) (Ar [0,1,5] [Am 15 5,Ae .add 16 15 1,Am 5 16]))
def pb150 : PC :=
.seq (Ar [0,1] [Ao 4 (.mv (Aw false))]) (.seq (.seq (Ar [0,1,10] [Am 6 0,Az 7 6,Am 8 1,Az 9 8,Ab .neq 10 7 9]) (.cond (.t 10) (.seq (Ar [4] [Ao 4 (.mv (Aw false))]) .ret) .skip)) (.seq (.seq (Ar [0,1,5] [Ak 5 0]) (.blk 0 (.loop pl150_0))) (.seq (Ar [4] [Ao 4 (.mv (Aw true))]) .ret)))
def pf150 : PF := ⟨[.s 4],[],pb150⟩

def pb151 : PC :=
.seq (Ar [2,3] [Ao 2 (.box 2 (.t 0)),Ao 3 (.box 2 (.t 1)),Ao 4 (.mv (Aw false))]) (.seq (.seq (Ar [2,3,9] [Af 5 2 0,Al 6 5,Af 7 3 0,Al 8 7,Ab .neq 9 6 8]) (.cond (.t 9) (.seq (Ar [4] [Ao 4 (.mv (Aw false))]) .ret) .skip)) (.seq (.seq (Ar [15] [Af 10 2 1,Al 11 10,Af 12 3 1,Al 13 12,Ac2 157 14 11 13,At 15 14]) (.cond (.t 15) (.seq (Ar [4] [Ao 4 (.mv (Aw false))]) .ret) .skip)) (.seq (Ar [4] [Ao 4 (.mv (Aw true))]) .ret)))
def pf151 : PF := ⟨[.s 4],[],pb151⟩

def pl152_0 : PC :=
.seq (.seq (Ar [0,1,5,14] [Am 11 5,Am 12 0,Az 13 12,Ab .lss 14 11 13]) (Aj 14 0)) (.seq (.blk 1 (.seq (Aq [0,1,5,25] [Am 17 0,Am 18 5,Ai 1 19 17 18,Al 20 19,Am 21 1,Am 22 5,Ai 1 23 21 22,Al 24 23,Ab .neq 25 20 24]) (.cond (.t 25) (.seq (Ar [4] [Ao 4 (.mv (Aw false))]) .ret) .skip))) (Ar [0,1,5] [Am 15 5,Ae .add 16 15 1,Am 5 16]))
def pb152 : PC :=
.seq (Ar [0,1] [Ao 4 (.mv (Aw false))]) (.seq (.seq (Ar [0,1,10] [Am 6 0,Az 7 6,Am 8 1,Az 9 8,Ab .neq 10 7 9]) (.cond (.t 10) (.seq (Ar [4] [Ao 4 (.mv (Aw false))]) .ret) .skip)) (.seq (.seq (Ar [0,1,5] [Ak 5 0]) (.blk 0 (.loop pl152_0))) (.seq (Ar [4] [Ao 4 (.mv (Aw true))]) .ret)))
def pf152 : PF := ⟨[.s 4],[],pb152⟩

def pb153 : PC :=
.seq (Ar [2,3] [Ao 2 (.box 7 (.t 0)),Ao 3 (.box 7 (.t 1)),Ao 4 (.mv (Aw false))]) (.seq (.seq (Ar [2,3,9] [Af 5 2 0,Al 6 5,Af 7 3 0,Al 8 7,Ab .neq 9 6 8]) (.cond (.t 9) (.seq (Ar [4] [Ao 4 (.mv (Aw false))]) .ret) .skip)) (.seq (.seq (Ar [2,3,14] [Af 10 2 1,Al 11 10,Af 12 3 1,Al 13 12,Ab .neq 14 11 13]) (.cond (.t 14) (.seq (Ar [4] [Ao 4 (.mv (Aw false))]) .ret) .skip)) (.seq (.seq (Ar [2,3,19] [Af 15 2 2,Al 16 15,Af 17 3 2,Al 18 17,Ab .neq 19 16 18]) (.cond (.t 19) (.seq (Ar [4] [Ao 4 (.mv (Aw false))]) .ret) .skip)) (.seq (.seq (Ar [2,3,25] [Af 20 2 3,AL' 3 21 20,Af 22 3 3,AL' 3 23 22,Ac2 165 24 21 23,At 25 24]) (.cond (.t 25) (.seq (Ar [4] [Ao 4 (.mv (Aw false))]) .ret) .skip)) (.seq (.seq (Ar [31] [Af 26 2 6,Al 27 26,Af 28 3 6,Al 29 28,Ac2 154 30 27 29,At 31 30]) (.cond (.t 31) (.seq (Ar [4] [Ao 4 (.mv (Aw false))]) .ret) .skip)) (.seq (Ar [4] [Ao 4 (.mv (Aw true))]) .ret))))))
def pf153 : PF := ⟨[.s 4],[],pb153⟩

def pl154_0 : PC :=
.seq (.seq (Ar [0,1,5,14] [Am 11 5,Am 12 0,Az 13 12,Ab .lss 14 11 13]) (Aj 14 0)) (.seq (.blk 1 (.seq (Aq [0,1,5,26] [Am 17 0,Am 18 5,Ai 7 19 17 18,AL' 7 20 19,Am 21 1,Am 22 5,Ai 7 23 21 22,AL' 7 24 23,Ac2 153 25 20 24,At 26 25]) (.cond (.t 26) (.seq (Ar [4] [Ao 4 (.mv (Aw false))]) .ret) .skip))) (Ar [0,1,5] [Am 15 5,Ae .add 16 15 1,Am 5 16]))
def pb154 : PC :=
.seq (Ar [0,1] [Ao 4 (.mv (Aw false))]) (.seq (.seq (Ar [0,1,10] [Am 6 0,Az 7 6,Am 8 1,Az 9 8,Ab .neq 10 7 9]) (.cond (.t 10) (.seq (Ar [4] [Ao 4 (.mv (Aw false))]) .ret) .skip)) (.seq (.seq (Ar [0,1,5] [Ak 5 0]) (.blk 0 (.loop pl154_0))) (.seq (Ar [4] [Ao 4 (.mv (Aw true))]) .ret)))
def pf154 : PF := ⟨[.s 4],[],pb154⟩

def pb155 : PC :=
.seq (Ar [2,3] [Ao 2 (.box 10 (.t 0)),Ao 3 (.box 10 (.t 1)),Ao 4 (.mv (Aw false))]) (.seq (.seq (Ar [2,3,9] [Af 5 2 0,Al 6 5,Af 7 3 0,Al 8 7,Ab .neq 9 6 8]) (.cond (.t 9) (.seq (Ar [4] [Ao 4 (.mv (Aw false))]) .ret) .skip)) (.seq (.seq (Ar [2,3,15] [Af 10 2 1,AL' 7 11 10,Af 12 3 1,AL' 7 13 12,Ac2 153 14 11 13,At 15 14]) (.cond (.t 15) (.seq (Ar [4] [Ao 4 (.mv (Aw false))]) .ret) .skip)) (.seq (.seq (Ar [2,3,20] [Af 16 2 8,Al 17 16,Af 18 3 8,Al 19 18,Ab .neq 20 17 19]) (.cond (.t 20) (.seq (Ar [4] [Ao 4 (.mv (Aw false))]) .ret) .skip)) (.seq (.seq (Ar [26] [Af 21 2 9,Al 22 21,Af 23 3 9,Al 24 23,Ac2 152 25 22 24,At 26 25]) (.cond (.t 26) (.seq (Ar [4] [Ao 4 (.mv (Aw false))]) .ret) .skip)) (.seq (Ar [4] [Ao 4 (.mv (Aw true))]) .ret)))))
def pf155 : PF := ⟨[.s 4],[],pb155⟩

def pb156 : PC :=
.seq (Ar [2,3] [Ao 2 (.box 5 (.t 0)),Ao 3 (.box 5 (.t 1)),Ao 4 (.mv (Aw false))]) (.seq (.seq (Ar [2,3,9] [Af 5 2 0,Al 6 5,Af 7 3 0,Al 8 7,Ab .neq 9 6 8]) (.cond (.t 9) (.seq (Ar [4] [Ao 4 (.mv (Aw false))]) .ret) .skip)) (.seq (.seq (Ar [2,3,14] [Af 10 2 1,Al 11 10,Af 12 3 1,Al 13 12,Ab .neq 14 11 13]) (.cond (.t 14) (.seq (Ar [4] [Ao 4 (.mv (Aw false))]) .ret) .skip)) (.seq (.seq (Ar [2,3,19] [Af 15 2 2,Al 16 15,Af 17 3 2,Al 18 17,Ab .neq 19 16 18]) (.cond (.t 19) (.seq (Ar [4] [Ao 4 (.mv (Aw false))]) .ret) .skip)) (.seq (.seq (Ar [2,3,24] [Af 20 2 3,Al 21 20,Af 22 3 3,Al 23 22,Ab .neq 24 21 23]) (.cond (.t 24) (.seq (Ar [4] [Ao 4 (.mv (Aw false))]) .ret) .skip)) (.seq (.seq (Ar [29] [Af 25 2 4,Al 26 25,Af 27 3 4,Al 28 27,Ab .neq 29 26 28]) (.cond (.t 29) (.seq (Ar [4] [Ao 4 (.mv (Aw false))]) .ret) .skip)) (.seq (Ar [4] [Ao 4 (.mv (Aw true))]) .ret))))))
def pf156 : PF := ⟨[.s 4],[],pb156⟩

def pl157_0 : PC :=
.seq (.seq (Ar [0,1,5,14] [Am 11 5,Am 12 0,Az 13 12,Ab .lss 14 11 13]) (Aj 14 0)) (.seq (.blk 1 (.seq (Aq [0,1,5,26] [Am 17 0,Am 18 5,Ai 5 19 17 18,AL' 5 20 19,Am 21 1,Am 22 5,Ai 5 23 21 22,AL' 5 24 23,Ac2 156 25 20 24,At 26 25]) (.cond (.t 26) (.seq (Ar [4] [Ao 4 (.mv (Aw false))]) .ret) .skip))) (Ar [0,1,5] [Am 15 5,Ae .add 16 15 1,Am 5 16]))
def pb157 : PC :=
.seq (Ar [0,1] [Ao 4 (.mv (Aw false))]) (.seq (.seq (Ar [0,1,10] [Am 6 0,Az 7 6,Am 8 1,Az 9 8,Ab .neq 10 7 9]) (.cond (.t 10) (.seq (Ar [4] [Ao 4 (.mv (Aw false))]) .ret) .skip)) (.seq (.seq (Ar [0,1,5] [Ak 5 0]) (.blk 0 (.loop pl157_0))) (.seq (Ar [4] [Ao 4 (.mv (Aw true))]) .ret)))
def pf157 : PF := ⟨[.s 4],[],pb157⟩

def pb158 : PC :=
.seq (Ar [2,3] [Ao 2 (.box 6 (.t 0)),Ao 3 (.box 6 (.t 1)),Ao 4 (.mv (Aw false))]) (.seq (.seq (Ar [2,3,10] [Af 5 2 0,Al 6 5,Af 7 3 0,Al 8 7,Ac2 160 9 6 8,At 10 9]) (.cond (.t 10) (.seq (Ar [4] [Ao 4 (.mv (Aw false))]) .ret) .skip)) (.seq (.seq (Ar [2,3,15] [Af 11 2 1,Al 12 11,Af 13 3 1,Al 14 13,Ab .neq 15 12 14]) (.cond (.t 15) (.seq (Ar [4] [Ao 4 (.mv (Aw false))]) .ret) .skip)) (.seq (.seq (Ar [2,3,20] [Af 16 2 2,Al 17 16,Af 18 3 2,Al 19 18,Ao 20 (.eqb true (.t 17) (.t 19))]) (.cond (.t 20) (.seq (Ar [4] [Ao 4 (.mv (Aw false))]) .ret) .skip)) (.seq (.seq (Ar [26] [Af 21 2 3,AL' 3 22 21,Af 23 3 3,AL' 3 24 23,Ac2 165 25 22 24,At 26 25]) (.cond (.t 26) (.seq (Ar [4] [Ao 4 (.mv (Aw false))]) .ret) .skip)) (.seq (Ar [4] [Ao 4 (.mv (Aw true))]) .ret)))))
def pf158 : PF := ⟨[.s 4],[],pb158⟩

def pb159 : PC :=
.seq (Ar [2,3] [Ao 2 (.box 2 (.t 0)),Ao 3 (.box 2 (.t 1)),Ao 4 (.mv (Aw false))]) (.seq (.seq (Ar [2,3,9] [Af 5 2 0,Al 6 5,Af 7 3 0,Al 8 7,Ab .neq 9 6 8]) (.cond (.t 9) (.seq (Ar [4] [Ao 4 (.mv (Aw false))]) .ret) .skip)) (.seq (.seq (Ar [15] [Af 10 2 1,Al 11 10,Af 12 3 1,Al 13 12,Ac2 166 14 11 13,At 15 14]) (.cond (.t 15) (.seq (Ar [4] [Ao 4 (.mv (Aw false))]) .ret) .skip)) (.seq (Ar [4] [Ao 4 (.mv (Aw true))]) .ret)))
def pf159 : PF := ⟨[.s 4],[],pb159⟩

def pl160_0 : PC :=
.seq (.seq (Ar [0,1,5,14] [Am 11 5,Am 12 0,Az 13 12,Ab .lss 14 11 13]) (Aj 14 0)) (.seq (.blk 1 (.seq (Aq [0,1,5,26] [Am 17 0,Am 18 5,Ai 2 19 17 18,AL' 2 20 19,Am 21 1,Am 22 5,Ai 2 23 21 22,AL' 2 24 23,Ac2 159 25 20 24,At 26 25]) (.cond (.t 26) (.seq (Ar [4] [Ao 4 (.mv (Aw false))]) .ret) .skip))) (Ar [0,1,5] [Am 15 5,Ae .add 16 15 1,Am 5 16]))
def pb160 : PC :=
.seq (Ar [0,1] [Ao 4 (.mv (Aw false))]) (.seq (.seq (Ar [0,1,10] [Am 6 0,Az 7 6,Am 8 1,Az 9 8,Ab .neq 10 7 9]) (.cond (.t 10) (.seq (Ar [4] [Ao 4 (.mv (Aw false))]) .ret) .skip)) (.seq (.seq (Ar [0,1,5] [Ak 5 0]) (.blk 0 (.loop pl160_0))) (.seq (Ar [4] [Ao 4 (.mv (Aw true))]) .ret)))
def pf160 : PF := ⟨[.s 4],[],pb160⟩

def pb161 : PC :=
.seq (Ar [2,3] [Ao 2 (.box 2 (.t 0)),Ao 3 (.box 2 (.t 1)),Ao 4 (.mv (Aw false))]) (.seq (.seq (Ar [2,3,9] [Af 5 2 0,Al 6 5,Af 7 3 0,Al 8 7,Ab .neq 9 6 8]) (.cond (.t 9) (.seq (Ar [4] [Ao 4 (.mv (Aw false))]) .ret) .skip)) (.seq (.seq (Ar [15] [Af 10 2 1,Al 11 10,Af 12 3 1,Al 13 12,Ac2 166 14 11 13,At 15 14]) (.cond (.t 15) (.seq (Ar [4] [Ao 4 (.mv (Aw false))]) .ret) .skip)) (.seq (Ar [4] [Ao 4 (.mv (Aw true))]) .ret)))
def pf161 : PF := ⟨[.s 4],[],pb161⟩

def pl162_0 : PC :=
.seq (.seq (Ar [0,1,5,14] [Am 11 5,Am 12 0,Az 13 12,Ab .lss 14 11 13]) (Aj 14 0)) (.seq (.blk 1 (.seq (Aq [0,1,5,26] [Am 17 0,Am 18 5,Ai 2 19 17 18,AL' 2 20 19,Am 21 1,Am 22 5,Ai 2 23 21 22,AL' 2 24 23,Ac2 161 25 20 24,At 26 25]) (.cond (.t 26) (.seq (Ar [4] [Ao 4 (.mv (Aw false))]) .ret) .skip))) (Ar [0,1,5] [Am 15 5,Ae .add 16 15 1,Am 5 16]))
def pb162 : PC :=
.seq (Ar [0,1] [Ao 4 (.mv (Aw false))]) (.seq (.seq (Ar [0,1,10] [Am 6 0,Az 7 6,Am 8 1,Az 9 8,Ab .neq 10 7 9]) (.cond (.t 10) (.seq (Ar [4] [Ao 4 (.mv (Aw false))]) .ret) .skip)) (.seq (.seq (Ar [0,1,5] [Ak 5 0]) (.blk 0 (.loop pl162_0))) (.seq (Ar [4] [Ao 4 (.mv (Aw true))]) .ret)))
def pf162 : PF := ⟨[.s 4],[],pb162⟩

def pb163 : PC :=
.seq (Ar [2,3] [Ao 2 (.box 25 (.t 0)),Ao 3 (.box 25 (.t 1)),Ao 4 (.mv (Aw false))]) (.seq (.seq (Ar [2,3,9] [Af 5 2 0,Al 6 5,Af 7 3 0,Al 8 7,Ab .neq 9 6 8]) (.cond (.t 9) (.seq (Ar [4] [Ao 4 (.mv (Aw false))]) .ret) .skip)) (.seq (.seq (Ar [2,3,14] [Af 10 2 1,Al 11 10,Af 12 3 1,Al 13 12,Ab .neq 14 11 13]) (.cond (.t 14) (.seq (Ar [4] [Ao 4 (.mv (Aw false))]) .ret) .skip)) (.seq (.seq (Ar [2,3,19] [Af 15 2 2,Al 16 15,Af 17 3 2,Al 18 17,Ab .neq 19 16 18]) (.cond (.t 19) (.seq (Ar [4] [Ao 4 (.mv (Aw false))]) .ret) .skip)) (.seq (.seq (Ar [2,3,25] [Af 20 2 3,Al 21 20,Af 22 3 3,Al 23 22,Ac2 166 24 21 23,At 25 24]) (.cond (.t 25) (.seq (Ar [4] [Ao 4 (.mv (Aw false))]) .ret) .skip)) (.seq (.seq (Ar [2,3,30] [Af 26 2 4,Al 27 26,Af 28 3 4,Al 29 28,Ab .neq 30 27 29]) (.cond (.t 30) (.seq (Ar [4] [Ao 4 (.mv (Aw false))]) .ret) .skip)) (.seq (.seq (Ar [2,3,36] [Af 31 2 5,AL' 10 32 31,Af 33 3 5,AL' 10 34 33,Ac2 155 35 32 34,At 36 35]) (.cond (.t 36) (.seq (Ar [4] [Ao 4 (.mv (Aw false))]) .ret) .skip)) (.seq (.seq (Ar [2,3,41] [Af 37 2 15,Al 38 37,Af 39 3 15,Al 40 39,Ab .neq 41 38 40]) (.cond (.t 41) (.seq (Ar [4] [Ao 4 (.mv (Aw false))]) .ret) .skip)) (.seq (.seq (Ar [2,3,46] [Af 42 2 16,Al 43 42,Af 44 3 16,Al 45 44,Ab .neq 46 43 45]) (.cond (.t 46) (.seq (Ar [4] [Ao 4 (.mv (Aw false))]) .ret) .skip)) (.seq (.seq (Ar [2,3,52] [Af 47 2 17,Al 48 47,Af 49 3 17,Al 50 49,Ac2 157 51 48 50,At 52 51]) (.cond (.t 52) (.seq (Ar [4] [Ao 4 (.mv (Aw false))]) .ret) .skip)) (.seq (.seq (Ar [2,3,57] [Af 53 2 18,Al 54 53,Af 55 3 18,Al 56 55,Ab .neq 57 54 56]) (.cond (.t 57) (.seq (Ar [4] [Ao 4 (.mv (Aw false))]) .ret) .skip)) (.seq (.seq (Ar [2,3,62] [Af 58 2 19,Al 59 58,Af 60 3 19,Al 61 60,Ab .neq 62 59 61]) (.cond (.t 62) (.seq (Ar [4] [Ao 4 (.mv (Aw false))]) .ret) .skip)) (.seq (.seq (Ar [2,3,67] [Af 63 2 20,Al 64 63,Af 65 3 20,Al 66 65,Ab .neq 67 64 66]) (.cond (.t 67) (.seq (Ar [4] [Ao 4 (.mv (Aw false))]) .ret) .skip)) (.seq (.seq (Ar [2,3,72] [Af 68 2 21,Al 69 68,Af 70 3 21,Al 71 70,Ab .neq 72 69 71]) (.cond (.t 72) (.seq (Ar [4] [Ao 4 (.mv (Aw false))]) .ret) .skip)) (.seq (.seq (Ar [2,3,77] [Af 73 2 22,Al 74 73,Af 75 3 22,Al 76 75,Ab .neq 77 74 76]) (.cond (.t 77) (.seq (Ar [4] [Ao 4 (.mv (Aw false))]) .ret) .skip)) (.seq (.seq (Ar [2,3,82] [Af 78 2 23,Al 79 78,Af 80 3 23,Al 81 80,Ao 82 (.eqb true (.t 79) (.t 81))]) (.cond (.t 82) (.seq (Ar [4] [Ao 4 (.mv (Aw false))]) .ret) .skip)) (.seq (.seq (Ar [88] [Af 83 2 24,Al 84 83,Af 85 3 24,Al 86 85,Ac2 160 87 84 86,At 88 87]) (.cond (.t 88) (.seq (Ar [4] [Ao 4 (.mv (Aw false))]) .ret) .skip)) (.seq (Ar [4] [Ao 4 (.mv (Aw true))]) .ret)))))))))))))))))
def pf163 : PF := ⟨[.s 4],[],pb163⟩

def pl164_0 : PC :=
.seq (.seq (Ar [0,1,5,14] [Am 11 5,Am 12 0,Az 13 12,Ab .lss 14 11 13]) (Aj 14 0)) (.seq (.blk 1 (.seq (Aq [0,1,5,26] [Am 17 0,Am 18 5,Ai 25 19 17 18,AL' 25 20 19,Am 21 1,Am 22 5,Ai 25 23 21 22,AL' 25 24 23,Ac2 163 25 20 24,At 26 25]) (.cond (.t 26) (.seq (Ar [4] [Ao 4 (.mv (Aw false))]) .ret) .skip))) (Ar [0,1,5] [Am 15 5,Ae .add 16 15 1,Am 5 16]))
def pb164 : PC :=
.seq (Ar [0,1] [Ao 4 (.mv (Aw false))]) (.seq (.seq (Ar [0,1,10] [Am 6 0,Az 7 6,Am 8 1,Az 9 8,Ab .neq 10 7 9]) (.cond (.t 10) (.seq (Ar [4] [Ao 4 (.mv (Aw false))]) .ret) .skip)) (.seq (.seq (Ar [0,1,5] [Ak 5 0]) (.blk 0 (.loop pl164_0))) (.seq (Ar [4] [Ao 4 (.mv (Aw true))]) .ret)))
def pf164 : PF := ⟨[.s 4],[],pb164⟩

def pb165 : PC :=
.seq (Ar [2,3] [Ao 2 (.box 3 (.t 0)),Ao 3 (.box 3 (.t 1)),Ao 4 (.mv (Aw false))]) (.seq (.seq (Ar [2,3,9] [Af 5 2 0,Al 6 5,Af 7 3 0,Al 8 7,Ab .neq 9 6 8]) (.cond (.t 9) (.seq (Ar [4] [Ao 4 (.mv (Aw false))]) .ret) .skip)) (.seq (.seq (Ar [2,3,14] [Af 10 2 1,Al 11 10,Af 12 3 1,Al 13 12,Ab .neq 14 11 13]) (.cond (.t 14) (.seq (Ar [4] [Ao 4 (.mv (Aw false))]) .ret) .skip)) (.seq (.seq (Ar [19] [Af 15 2 2,Al 16 15,Af 17 3 2,Al 18 17,Ab .neq 19 16 18]) (.cond (.t 19) (.seq (Ar [4] [Ao 4 (.mv (Aw false))]) .ret) .skip)) (.seq (Ar [4] [Ao 4 (.mv (Aw true))]) .ret))))
def pf165 : PF := ⟨[.s 4],[],pb165⟩

def pl166_0 : PC :=
.seq (.seq (Ar [0,1,5,14] [Am 11 5,Am 12 0,Az 13 12,Ab .lss 14 11 13]) (Aj 14 0)) (.seq (.blk 1 (.seq (Aq [0,1,5,26] [Am 17 0,Am 18 5,Ai 3 19 17 18,AL' 3 20 19,Am 21 1,Am 22 5,Ai 3 23 21 22,AL' 3 24 23,Ac2 165 25 20 24,At 26 25]) (.cond (.t 26) (.seq (Ar [4] [Ao 4 (.mv (Aw false))]) .ret) .skip))) (Ar [0,1,5] [Am 15 5,Ae .add 16 15 1,Am 5 16]))
def pb166 : PC :=
.seq (Ar [0,1] [Ao 4 (.mv (Aw false))]) (.seq (.seq (Ar [0,1,10] [Am 6 0,Az 7 6,Am 8 1,Az 9 8,Ab .neq 10 7 9]) (.cond (.t 10) (.seq (Ar [4] [Ao 4 (.mv (Aw false))]) .ret) .skip)) (.seq (.seq (Ar [0,1,5] [Ak 5 0]) (.blk 0 (.loop pl166_0))) (.seq (Ar [4] [Ao 4 (.mv (Aw true))]) .ret)))
def pf166 : PF := ⟨[.s 4],[],pb166⟩

def pb167 : PC :=
.seq (Ar [2,3] [Ao 2 (.box 14 (.t 0)),Ao 3 (.box 14 (.t 1)),Ao 4 (.mv (Aw false))]) (.seq (.seq (Ar [2,3,10] [Af 5 2 0,AL' 3 6 5,Af 7 3 0,AL' 3 8 7,Ac2 146 9 6 8,At 10 9]) (.cond (.t 10) (.seq (Ar [4] [Ao 4 (.mv (Aw false))]) .ret) .skip)) (.seq (.seq (Ar [2,3,15] [Af 11 2 3,Al 12 11,Af 13 3 3,Al 14 13,Ab .neq 15 12 14]) (.cond (.t 15) (.seq (Ar [4] [Ao 4 (.mv (Aw false))]) .ret) .skip)) (.seq (.seq (Ar [2,3,20] [Af 16 2 4,Al 17 16,Af 18 3 4,Al 19 18,Ab .neq 20 17 19]) (.cond (.t 20) (.seq (Ar [4] [Ao 4 (.mv (Aw false))]) .ret) .skip)) (.seq (.seq (Ar [2,3,25] [Af 21 2 5,Al 22 21,Af 23 3 5,Al 24 23,Ab .neq 25 22 24]) (.cond (.t 25) (.seq (Ar [4] [Ao 4 (.mv (Aw false))]) .ret) .skip)) (.seq (.seq (Ar [2,3,31] [Af 26 2 6,AL' 2 27 26,Af 28 3 6,AL' 2 29 28,Ac2 151 30 27 29,At 31 30]) (.cond (.t 31) (.seq (Ar [4] [Ao 4 (.mv (Aw false))]) .ret) .skip)) (.seq (.seq (Ar [2,3,37] [Af 32 2 8,Al 33 32,Af 34 3 8,Al 35 34,Ac2 143 36 33 35,At 37 36]) (.cond (.t 37) (.seq (Ar [4] [Ao 4 (.mv (Aw false))]) .ret) .skip)) (.seq (.seq (Ar [2,3,43] [Af 38 2 9,Al 39 38,Af 40 3 9,Al 41 40,Ac2 152 42 39 41,At 43 42]) (.cond (.t 43) (.seq (Ar [4] [Ao 4 (.mv (Aw false))]) .ret) .skip)) (.seq (.seq (Ar [2,3,49] [Af 44 2 10,Al 45 44,Af 46 3 10,Al 47 46,Ac2 148 48 45 47,At 49 48]) (.cond (.t 49) (.seq (Ar [4] [Ao 4 (.mv (Aw false))]) .ret) .skip)) (.seq (.seq (Ar [2,3,55] [Af 50 2 11,Al 51 50,Af 52 3 11,Al 53 52,Ac2 152 54 51 53,At 55 54]) (.cond (.t 55) (.seq (Ar [4] [Ao 4 (.mv (Aw false))]) .ret) .skip)) (.seq (.seq (Ar [2,3,61] [Af 56 2 12,Al 57 56,Af 58 3 12,Al 59 58,Ac2 164 60 57 59,At 61 60]) (.cond (.t 61) (.seq (Ar [4] [Ao 4 (.mv (Aw false))]) .ret) .skip)) (.seq (.seq (Ar [67] [Af 62 2 13,Al 63 62,Af 64 3 13,Al 65 64,Ac2 150 66 63 65,At 67 66]) (.cond (.t 67) (.seq (Ar [4] [Ao 4 (.mv (Aw false))]) .ret) .skip)) (.seq (Ar [4] [Ao 4 (.mv (Aw true))]) .ret))))))))))))
def pf167 : PF := ⟨[.s 4],[],pb167⟩

def pl168_0 : PC :=
.seq (.seq (Ar [0,1,5,9] [Am 6 5,Am 7 0,Az 8 7,Ab .lss 9 6 8]) (Aj 9 0)) (.seq (.blk 1 (.seq (.seq (Ar [0,1,5,18] [Am 12 0,Am 13 5,Ai 5 14 12 13,Af 15 14 0,Al 16 15,Am 17 1,Ab .neq 18 16 17]) (.cond (.t 18) (.seq (Ar [4] [Ak 4 (-1)]) .ret) .skip)) (.seq (Ar [0,1,5] [Am 19 1,Ae .add 20 19 1,Am 1 20]) (.seq (.seq (Ar [0,1,5,27] [Am 21 0,Am 22 5,Ai 5 23 21 22,Af 24 23 1,Al 25 24,Am 26 1,Ab .neq 27 25 26]) (.cond (.t 27) (.seq (Ar [4] [Ak 4 (-1)]) .ret) .skip)) (.seq (Ar [0,1,5] [Am 28 1,Ae .add 29 28 1,Am 1 29]) (.seq (.seq (Ar [0,1,5,37] [Am 30 0,Am 31 5,Ai 5 32 30 31,Af 33 32 2,Af 34 33 0,Al 35 34,Am 36 1,Ab .neq 37 35 36]) (.cond (.t 37) (.seq (Ar [4] [Ak 4 (-1)]) .ret) .skip)) (.seq (Ar [0,1,5] [Am 38 1,Ae .add 39 38 1,Am 1 39]) (.seq (An1 [0,1,5] 47 1 [Am 40 0,Am 41 5,Ai 5 42 40 41,Af 43 42 2,Af 44 43 1,Al 45 44,Am 46 1,Ac2 179 47 45 46,Am 1 47]) (.seq (.seq (Ar [0,1,5,49] [Am 48 1,Ae .lss 49 48 0]) (.cond (.t 49) (.seq (Ar [4] [Ak 4 (-1)]) .ret) .skip)) (.seq (An1 [0,1,5] 56 1 [Am 50 0,Am 51 5,Ai 5 52 50 51,Af 53 52 4,Al 54 53,Am 55 1,Ac2 169 56 54 55,Am 1 56]) (.seq (Ar [0,1,5,58] [Am 57 1,Ae .lss 58 57 0]) (.cond (.t 58) (.seq (Ar [4] [Ak 4 (-1)]) .ret) .skip)))))))))))) (Ar [0,1,5] [Am 10 5,Ae .add 11 10 1,Am 5 11]))
def pb168 : PC :=
.seq (Ar [0,1] [Ak 4 0]) (.seq (.seq (Ar [0,1,5] [Ak 5 0]) (.blk 0 (.loop pl168_0))) (.seq (Ar [1,4] [Am 59 1,Am 4 59]) .ret))
def pf168 : PF := ⟨[.s 4],[],pb168⟩

def pl169_0 : PC :=
.seq (.seq (Ar [0,1,5,9] [Am 6 5,Am 7 0,Az 8 7,Ab .lss 9 6 8]) (Aj 9 0)) (.seq (.blk 1 (.seq (.seq (Ar [0,1,5,18] [Am 12 0,Am 13 5,Ai 1 14 12 13,Al 15 14,Am 16 1,Ao 17 (.cvi .u8 (.t 16)),Ab .neq 18 15 17]) (.cond (.t 18) (.seq (Ar [4] [Ak 4 (-1)]) .ret) .skip)) (Ar [0,1,5] [Am 19 1,Ae .add 20 19 1,Am 1 20]))) (Ar [0,1,5] [Am 10 5,Ae .add 11 10 1,Am 5 11]))
def pb169 : PC :=
.seq (Ar [0,1] [Ak 4 0]) (.seq (.seq (Ar [0,1,5] [Ak 5 0]) (.blk 0 (.loop pl169_0))) (.seq (Ar [4] [Am 21 1,Am 4 21]) .ret))
def pf169 : PF := ⟨[.s 4],[],pb169⟩

def pb171 : PC :=
.seq (Ar [1,2] [Ao 2 (.box 3 (.t 0)),Ak 4 0]) (.seq (An1 [1] 8 1 [Af 5 2 0,Al 6 5,Am 7 1,Ac2 175 8 6 7,Am 1 8]) (.seq (.seq (Ar [1,10] [Am 9 1,Ae .lss 10 9 0]) (.cond (.t 10) (.seq (Ar [4] [Ak 4 (-1)]) .ret) .skip)) (.seq (Ar [1,4] [Am 11 1,Am 4 11]) .ret)))
def pf171 : PF := ⟨[.s 4],[],pb171⟩

def pl172_0 : PC :=
.seq (.seq (Ar [0,1,5,9] [Am 6 5,Am 7 0,Az 8 7,Ab .lss 9 6 8]) (Aj 9 0)) (.seq (.blk 1 (.seq (.seq (Ar [0,1,5,18] [Am 12 0,Am 13 5,Ai 3 14 12 13,Af 15 14 0,Al 16 15,Am 17 1,Ab .neq 18 16 17]) (.cond (.t 18) (.seq (Ar [4] [Ak 4 (-1)]) .ret) .skip)) (.seq (Ar [0,1,5] [Am 19 1,Ae .add 20 19 1,Am 1 20]) (.seq (.seq (Ar [0,1,5,27] [Am 21 0,Am 22 5,Ai 3 23 21 22,Af 24 23 1,Al 25 24,Am 26 1,Ab .neq 27 25 26]) (.cond (.t 27) (.seq (Ar [4] [Ak 4 (-1)]) .ret) .skip)) (.seq (Ar [0,1,5] [Am 28 1,Ae .add 29 28 1,Am 1 29]) (.seq (.seq (Ar [0,1,5,36] [Am 30 0,Am 31 5,Ai 3 32 30 31,Af 33 32 2,Al 34 33,Am 35 1,Ab .neq 36 34 35]) (.cond (.t 36) (.seq (Ar [4] [Ak 4 (-1)]) .ret) .skip)) (Ar [0,1,5] [Am 37 1,Ae .add 38 37 1,Am 1 38]))))))) (Ar [0,1,5] [Am 10 5,Ae .add 11 10 1,Am 5 11]))
def pb172 : PC :=
.seq (Ar [0,1] [Ak 4 0]) (.seq (.seq (Ar [0,1,5] [Ak 5 0]) (.blk 0 (.loop pl172_0))) (.seq (Ar [4] [Am 39 1,Am 4 39]) .ret))
def pf172 : PF := ⟨[.s 4],[],pb172⟩

def pl173_0 : PC :=
.seq (.seq (Ar [0,1,5,9] [Am 6 5,Am 7 0,Az 8 7,Ab .lss 9 6 8]) (Aj 9 0)) (.seq (.blk 1 (.seq (.seq (Ar [0,1,5,18] [Am 12 0,Am 13 5,Ai 25 14 12 13,Af 15 14 0,Al 16 15,Am 17 1,Ab .neq 18 16 17]) (.cond (.t 18) (.seq (Ar [4] [Ak 4 (-1)]) .ret) .skip)) (.seq (Ar [0,1,5] [Am 19 1,Ae .add 20 19 1,Am 1 20]) (.seq (.seq (Ar [0,1,5,27] [Am 21 0,Am 22 5,Ai 25 23 21 22,Af 24 23 1,Al 25 24,Am 26 1,Ab .neq 27 25 26]) (.cond (.t 27) (.seq (Ar [4] [Ak 4 (-1)]) .ret) .skip)) (.seq (Ar [0,1,5] [Am 28 1,Ae .add 29 28 1,Am 1 29]) (.seq (An1 [0,1,5] 36 1 [Am 30 0,Am 31 5,Ai 25 32 30 31,Af 33 32 2,Al 34 33,Am 35 1,Ac2 181 36 34 35,Am 1 36]) (.seq (.seq (Ar [0,1,5,38] [Am 37 1,Ae .lss 38 37 0]) (.cond (.t 38) (.seq (Ar [4] [Ak 4 (-1)]) .ret) .skip)) (.seq (.seq (Ar [0,1,5,45] [Am 39 0,Am 40 5,Ai 25 41 39 40,Af 42 41 3,Al 43 42,Am 44 1,Ab .neq 45 43 44]) (.cond (.t 45) (.seq (Ar [4] [Ak 4 (-1)]) .ret) .skip)) (.seq (Ar [0,1,5] [Am 46 1,Ae .add 47 46 1,Am 1 47]) (.seq (.seq (Ar [0,1,5,55] [Am 48 0,Am 49 5,Ai 25 50 48 49,Af 51 50 4,Af 52 51 0,Al 53 52,Am 54 1,Ab .neq 55 53 54]) (.cond (.t 55) (.seq (Ar [4] [Ak 4 (-1)]) .ret) .skip)) (.seq (Ar [0,1,5] [Am 56 1,Ae .add 57 56 1,Am 1 57]) (.seq (.seq (Ar [0,1,5,66] [Am 58 0,Am 59 5,Ai 25 60 58 59,Af 61 60 4,Af 62 61 1,Af 63 62 0,Al 64 63,Am 65 1,Ab .neq 66 64 65]) (.cond (.t 66) (.seq (Ar [4] [Ak 4 (-1)]) .ret) .skip)) (.seq (Ar [0,1,5] [Am 67 1,Ae .add 68 67 1,Am 1 68]) (.seq (.seq (Ar [0,1,5,77] [Am 69 0,Am 70 5,Ai 25 71 69 70,Af 72 71 4,Af 73 72 1,Af 74 73 1,Al 75 74,Am 76 1,Ab .neq 77 75 76]) (.cond (.t 77) (.seq (Ar [4] [Ak 4 (-1)]) .ret) .skip)) (.seq (Ar [0,1,5] [Am 78 1,Ae .add 79 78 1,Am 1 79]) (.seq (.seq (Ar [0,1,5,88] [Am 80 0,Am 81 5,Ai 25 82 80 81,Af 83 82 4,Af 84 83 1,Af 85 84 2,Al 86 85,Am 87 1,Ab .neq 88 86 87]) (.cond (.t 88) (.seq (Ar [4] [Ak 4 (-1)]) .ret) .skip)) (.seq (Ar [0,1,5] [Am 89 1,Ae .add 90 89 1,Am 1 90]) (.seq (.seq (Ar [0,1,5,100] [Am 91 0,Am 92 5,Ai 25 93 91 92,Af 94 93 4,Af 95 94 1,Af 96 95 3,Af 97 96 0,Al 98 97,Am 99 1,Ab .neq 100 98 99]) (.cond (.t 100) (.seq (Ar [4] [Ak 4 (-1)]) .ret) .skip)) (.seq (Ar [0,1,5] [Am 101 1,Ae .add 102 101 1,Am 1 102]) (.seq (.seq (Ar [0,1,5,112] [Am 103 0,Am 104 5,Ai 25 105 103 104,Af 106 105 4,Af 107 106 1,Af 108 107 3,Af 109 108 1,Al 110 109,Am 111 1,Ab .neq 112 110 111]) (.cond (.t 112) (.seq (Ar [4] [Ak 4 (-1)]) .ret) .skip)) (.seq (Ar [0,1,5] [Am 113 1,Ae .add 114 113 1,Am 1 114]) (.seq (.seq (.reg [0,1,5,125] [] [Am 115 0,Am 116 5,Ai 25 117 115 116,Af 118 117 4,Af 119 118 1,Af 120 119 3,Af 121 120 2,Al 122 121,Am 123 1,Ac1 196 124 123,Ab .neq 125 122 124] (some [(2,9),(7,9)])) (.cond (.t 125) (.seq (Ar [4] [Ak 4 (-1)]) .ret) .skip)) (.seq (Ar [0,1,5] [Am 126 1,Ae .add 127 126 1,Am 1 127]) (.seq (An1 [0,1,5] 136 1 [Am 128 0,Am 129 5,Ai 25 130 128 129,Af 131 130 4,Af 132 131 1,Af 133 132 6,Al 134 133,Am 135 1,Ac2 176 136 134 135,Am 1 136]) (.seq (.seq (Ar [0,1,5,138] [Am 137 1,Ae .lss 138 137 0]) (.cond (.t 138) (.seq (Ar [4] [Ak 4 (-1)]) .ret) .skip)) (.seq (.seq (Ar [0,1,5,146] [Am 139 0,Am 140 5,Ai 25 141 139 140,Af 142 141 4,Af 143 142 8,Al 144 143,Am 145 1,Ab .neq 146 144 145]) (.cond (.t 146) (.seq (Ar [4] [Ak 4 (-1)]) .ret) .skip)) (.seq (Ar [0,1,5] [Am 147 1,Ae .add 148 147 1,Am 1 148]) (.seq (An1 [0,1,5] 156 1 [Am 149 0,Am 150 5,Ai 25 151 149 150,Af 152 151 4,Af 153 152 9,Al 154 153,Am 155 1,Ac2 175 156 154 155,Am 1 156]) (.seq (.seq (Ar [0,1,5,158] [Am 157 1,Ae .lss 158 157 0]) (.cond (.t 158) (.seq (Ar [4] [Ak 4 (-1)]) .ret) .skip)) (.seq (An1 [0,1,5] 166 1 [Am 159 0,Am 160 5,Ai 25 161 159 160,Af 162 161 14,Af 163 162 0,Al 164 163,Am 165 1,Ac2 178 166 164 165,Am 1 166]) (.seq (.seq (Ar [0,1,5,168] [Am 167 1,Ae .lss 168 167 0]) (.cond (.t 168) (.seq (Ar [4] [Ak 4 (-1)]) .ret) .skip)) (.seq (.seq (Ar [0,1,5,176] [Am 169 0,Am 170 5,Ai 25 171 169 170,Af 172 171 14,Af 173 172 1,Al 174 173,Am 175 1,Ab .neq 176 174 175]) (.cond (.t 176) (.seq (Ar [4] [Ak 4 (-1)]) .ret) .skip)) (.seq (Ar [0,1,5] [Am 177 1,Ae .add 178 177 1,Am 1 178]) (.seq (.seq (Ar [0,1,5,188] [Am 179 0,Am 180 5,Ai 25 181 179 180,Af 182 181 14,Af 183 182 2,Al 184 183,Am 185 1,Ae .rem 186 185 3,Ae .eql 187 186 0,Ao 188 (.eqb true (.t 184) (.t 187))]) (.cond (.t 188) (.seq (Ar [4] [Ak 4 (-1)]) .ret) .skip)) (.seq (Ar [0,1,5] [Am 189 1,Ae .add 190 189 1,Am 1 190]) (.seq (.seq (Ar [0,1,5,199] [Am 191 0,Am 192 5,Ai 25 193 191 192,Af 194 193 14,Af 195 194 3,Af 196 195 0,Al 197 196,Am 198 1,Ab .neq 199 197 198]) (.cond (.t 199) (.seq (Ar [4] [Ak 4 (-1)]) .ret) .skip)) (.seq (Ar [0,1,5] [Am 200 1,Ae .add 201 200 1,Am 1 201]) (.seq (.seq (Ar [0,1,5,210] [Am 202 0,Am 203 5,Ai 25 204 202 203,Af 205 204 14,Af 206 205 3,Af 207 206 1,Al 208 207,Am 209 1,Ab .neq 210 208 209]) (.cond (.t 210) (.seq (Ar [4] [Ak 4 (-1)]) .ret) .skip)) (.seq (Ar [0,1,5] [Am 211 1,Ae .add 212 211 1,Am 1 212]) (.seq (.seq (.reg [0,1,5,222] [] [Am 213 0,Am 214 5,Ai 25 215 213 214,Af 216 215 14,Af 217 216 3,Af 218 217 2,Al 219 218,Am 220 1,Ac1 196 221 220,Ab .neq 222 219 221] (some [(2,8),(6,8)])) (.cond (.t 222) (.seq (Ar [4] [Ak 4 (-1)]) .ret) .skip)) (.seq (Ar [0,1,5] [Am 223 1,Ae .add 224 223 1,Am 1 224]) (.seq (.seq (Ar [0,1,5,231] [Am 225 0,Am 226 5,Ai 25 227 225 226,Af 228 227 20,Al 229 228,Am 230 1,Ab .neq 231 229 230]) (.cond (.t 231) (.seq (Ar [4] [Ak 4 (-1)]) .ret) .skip)) (.seq (Ar [0,1,5] [Am 232 1,Ae .add 233 232 1,Am 1 233]) (.seq (.seq (Ar [0,1,5,240] [Am 234 0,Am 235 5,Ai 25 236 234 235,Af 237 236 21,Al 238 237,Am 239 1,Ab .neq 240 238 239]) (.cond (.t 240) (.seq (Ar [4] [Ak 4 (-1)]) .ret) .skip)) (.seq (Ar [0,1,5] [Am 241 1,Ae .add 242 241 1,Am 1 242]) (.seq (.seq (Ar [0,1,5,249] [Am 243 0,Am 244 5,Ai 25 245 243 244,Af 246 245 22,Al 247 246,Am 248 1,Ab .neq 249 247 248]) (.cond (.t 249) (.seq (Ar [4] [Ak 4 (-1)]) .ret) .skip)) (.seq (Ar [0,1,5] [Am 250 1,Ae .add 251 250 1,Am 1 251]) (.seq (.seq (Ar [0,1,5,258] [Am 252 0,Am 253 5,Ai 25 254 252 253,Af 255 254 23,Al 256 255,Am 257 1,Ab .neq 258 256 257]) (.cond (.t 258) (.seq (Ar [4] [Ak 4 (-1)]) .ret) .skip)) (.seq (Ar [0,1,5] [Am 259 1,Ae .add 260 259 1,Am 1 260]) (.seq (.seq (Ar [0,1,5,267] [Am 261 0,Am 262 5,Ai 25 263 261 262,Af 264 263 24,Al 265 264,Am 266 1,Ab .neq 267 265 266]) (.cond (.t 267) (.seq (Ar [4] [Ak 4 (-1)]) .ret) .skip)) (Ar [0,1,5] [Am 268 1,Ae .add 269 268 1,Am 1 269]))))))))))))))))))))))))))))))))))))))))))))))))))) (Ar [0,1,5] [Am 10 5,Ae .add 11 10 1,Am 5 11]))
def pb173 : PC :=
.seq (Ar [0,1] [Ak 4 0]) (.seq (.seq (Ar [0,1,5] [Ak 5 0]) (.blk 0 (.loop pl173_0))) (.seq (Ar [4] [Am 270 1,Am 4 270]) .ret))
def pf173 : PF := ⟨[.s 4],[],pb173⟩

def pb174 : PC :=
.seq (Ar [1,2] [Ao 2 (.box 2 (.t 0)),Ak 4 0]) (.seq (An1 [1] 8 1 [Af 5 2 1,Al 6 5,Am 7 1,Ac2 177 8 6 7,Am 1 8]) (.seq (.seq (Ar [1,10] [Am 9 1,Ae .lss 10 9 0]) (.cond (.t 10) (.seq (Ar [4] [Ak 4 (-1)]) .ret) .skip)) (.seq (Ar [1,4] [Am 11 1,Am 4 11]) .ret)))
def pf174 : PF := ⟨[.s 4],[],pb174⟩

def pl175_0 : PC :=
.seq (.seq (Ar [0,1,5,9] [Am 6 5,Am 7 0,Az 8 7,Ab .lss 9 6 8]) (Aj 9 0)) (.seq (.blk 1 (.seq (.seq (Ar [0,1,5,17] [Am 12 0,Am 13 5,Ai 1 14 12 13,Al 15 14,Am 16 1,Ab .neq 17 15 16]) (.cond (.t 17) (.seq (Ar [4] [Ak 4 (-1)]) .ret) .skip)) (Ar [0,1,5] [Am 18 1,Ae .add 19 18 1,Am 1 19]))) (Ar [0,1,5] [Am 10 5,Ae .add 11 10 1,Am 5 11]))
def pb175 : PC :=
.seq (Ar [0,1] [Ak 4 0]) (.seq (.seq (Ar [0,1,5] [Ak 5 0]) (.blk 0 (.loop pl175_0))) (.seq (Ar [4] [Am 20 1,Am 4 20]) .ret))
def pf175 : PF := ⟨[.s 4],[],pb175⟩

def pl176_0 : PC :=
.seq (.seq (Ar [0,1,5,9] [Am 6 5,Am 7 0,Az 8 7,Ab .lss 9 6 8]) (Aj 9 0)) (.seq (.blk 1 (.seq (.seq (Ar [0,1,5,18] [Am 12 0,Am 13 5,Ai 7 14 12 13,Af 15 14 0,Al 16 15,Am 17 1,Ab .neq 18 16 17]) (.cond (.t 18) (.seq (Ar [4] [Ak 4 (-1)]) .ret) .skip)) (.seq (Ar [0,1,5] [Am 19 1,Ae .add 20 19 1,Am 1 20]) (.seq (.seq (Ar [0,1,5,27] [Am 21 0,Am 22 5,Ai 7 23 21 22,Af 24 23 1,Al 25 24,Am 26 1,Ab .neq 27 25 26]) (.cond (.t 27) (.seq (Ar [4] [Ak 4 (-1)]) .ret) .skip)) (.seq (Ar [0,1,5] [Am 28 1,Ae .add 29 28 1,Am 1 29]) (.seq (.seq (Ar [0,1,5,36] [Am 30 0,Am 31 5,Ai 7 32 30 31,Af 33 32 2,Al 34 33,Am 35 1,Ab .neq 36 34 35]) (.cond (.t 36) (.seq (Ar [4] [Ak 4 (-1)]) .ret) .skip)) (.seq (Ar [0,1,5] [Am 37 1,Ae .add 38 37 1,Am 1 38]) (.seq (.seq (Ar [0,1,5,46] [Am 39 0,Am 40 5,Ai 7 41 39 40,Af 42 41 3,Af 43 42 0,Al 44 43,Am 45 1,Ab .neq 46 44 45]) (.cond (.t 46) (.seq (Ar [4] [Ak 4 (-1)]) .ret) .skip)) (.seq (Ar [0,1,5] [Am 47 1,Ae .add 48 47 1,Am 1 48]) (.seq (.seq (Ar [0,1,5,56] [Am 49 0,Am 50 5,Ai 7 51 49 50,Af 52 51 3,Af 53 52 1,Al 54 53,Am 55 1,Ab .neq 56 54 55]) (.cond (.t 56) (.seq (Ar [4] [Ak 4 (-1)]) .ret) .skip)) (.seq (Ar [0,1,5] [Am 57 1,Ae .add 58 57 1,Am 1 58]) (.seq (.seq (.reg [0,1,5,67] [] [Am 59 0,Am 60 5,Ai 7 61 59 60,Af 62 61 3,Af 63 62 2,Al 64 63,Am 65 1,Ac1 196 66 65,Ab .neq 67 64 66] (some [(2,7),(5,7)])) (.cond (.t 67) (.seq (Ar [4] [Ak 4 (-1)]) .ret) .skip)) (.seq (Ar [0,1,5] [Am 68 1,Ae .add 69 68 1,Am 1 69]) (.seq (An1 [0,1,5] 76 1 [Am 70 0,Am 71 5,Ai 7 72 70 71,Af 73 72 6,Al 74 73,Am 75 1,Ac2 176 76 74 75,Am 1 76]) (.seq (Ar [0,1,5,78] [Am 77 1,Ae .lss 78 77 0]) (.cond (.t 78) (.seq (Ar [4] [Ak 4 (-1)]) .ret) .skip)))))))))))))))) (Ar [0,1,5] [Am 10 5,Ae .add 11 10 1,Am 5 11]))
def pb176 : PC :=
.seq (Ar [0,1] [Ak 4 0]) (.seq (.seq (Ar [0,1,5] [Ak 5 0]) (.blk 0 (.loop pl176_0))) (.seq (Ar [1,4] [Am 79 1,Am 4 79]) .ret))
def pf176 : PF := ⟨[.s 4],[],pb176⟩

def pl177_0 : PC :=
.seq (.seq (Ar [0,1,5,9] [Am 6 5,Am 7 0,Az 8 7,Ab .lss 9 6 8]) (Aj 9 0)) (.seq (.blk 1 (.seq (.seq (Ar [0,1,5,18] [Am 12 0,Am 13 5,Ai 5 14 12 13,Af 15 14 0,Al 16 15,Am 17 1,Ab .neq 18 16 17]) (.cond (.t 18) (.seq (Ar [4] [Ak 4 (-1)]) .ret) .skip)) (.seq (Ar [0,1,5] [Am 19 1,Ae .add 20 19 1,Am 1 20]) (.seq (.seq (Ar [0,1,5,27] [Am 21 0,Am 22 5,Ai 5 23 21 22,Af 24 23 1,Al 25 24,Am 26 1,Ab .neq 27 25 26]) (.cond (.t 27) (.seq (Ar [4] [Ak 4 (-1)]) .ret) .skip)) (.seq (Ar [0,1,5] [Am 28 1,Ae .add 29 28 1,Am 1 29]) (.seq (.seq (Ar [0,1,5,36] [Am 30 0,Am 31 5,Ai 5 32 30 31,Af 33 32 2,Al 34 33,Am 35 1,Ab .neq 36 34 35]) (.cond (.t 36) (.seq (Ar [4] [Ak 4 (-1)]) .ret) .skip)) (.seq (Ar [0,1,5] [Am 37 1,Ae .add 38 37 1,Am 1 38]) (.seq (.seq (Ar [0,1,5,45] [Am 39 0,Am 40 5,Ai 5 41 39 40,Af 42 41 3,Al 43 42,Am 44 1,Ab .neq 45 43 44]) (.cond (.t 45) (.seq (Ar [4] [Ak 4 (-1)]) .ret) .skip)) (.seq (Ar [0,1,5] [Am 46 1,Ae .add 47 46 1,Am 1 47]) (.seq (.seq (Ar [0,1,5,54] [Am 48 0,Am 49 5,Ai 5 50 48 49,Af 51 50 4,Al 52 51,Am 53 1,Ab .neq 54 52 53]) (.cond (.t 54) (.seq (Ar [4] [Ak 4 (-1)]) .ret) .skip)) (Ar [0,1,5] [Am 55 1,Ae .add 56 55 1,Am 1 56]))))))))))) (Ar [0,1,5] [Am 10 5,Ae .add 11 10 1,Am 5 11]))
def pb177 : PC :=
.seq (Ar [0,1] [Ak 4 0]) (.seq (.seq (Ar [0,1,5] [Ak 5 0]) (.blk 0 (.loop pl177_0))) (.seq (Ar [4] [Am 57 1,Am 4 57]) .ret))
def pf177 : PF := ⟨[.s 4],[],pb177⟩

def pl178_0 : PC :=
.seq (.seq (Ar [0,1,5,9] [Am 6 5,Am 7 0,Az 8 7,Ab .lss 9 6 8]) (Aj 9 0)) (.seq (.blk 1 (.seq (.seq (Ar [0,1,5,18] [Am 12 0,Am 13 5,Ai 2 14 12 13,Af 15 14 0,Al 16 15,Am 17 1,Ab .neq 18 16 17]) (.cond (.t 18) (.seq (Ar [4] [Ak 4 (-1)]) .ret) .skip)) (.seq (Ar [0,1,5] [Am 19 1,Ae .add 20 19 1,Am 1 20]) (.seq (An1 [0,1,5] 27 1 [Am 21 0,Am 22 5,Ai 2 23 21 22,Af 24 23 1,Al 25 24,Am 26 1,Ac2 181 27 25 26,Am 1 27]) (.seq (Ar [0,1,5,29] [Am 28 1,Ae .lss 29 28 0]) (.cond (.t 29) (.seq (Ar [4] [Ak 4 (-1)]) .ret) .skip)))))) (Ar [0,1,5] [Am 10 5,Ae .add 11 10 1,Am 5 11]))
def pb178 : PC :=
.seq (Ar [0,1] [Ak 4 0]) (.seq (.seq (Ar [0,1,5] [Ak 5 0]) (.blk 0 (.loop pl178_0))) (.seq (Ar [1,4] [Am 30 1,Am 4 30]) .ret))
def pf178 : PF := ⟨[.s 4],[],pb178⟩

def pl179_0 : PC :=
.seq (.seq (Ar [0,1,5,9] [Am 6 5,Am 7 0,Az 8 7,Ab .lss 9 6 8]) (Aj 9 0)) (.seq (.blk 1 (.seq (.seq (Ar [0,1,5,18] [Am 12 0,Am 13 5,Ai 2 14 12 13,Af 15 14 0,Al 16 15,Am 17 1,Ab .neq 18 16 17]) (.cond (.t 18) (.seq (Ar [4] [Ak 4 (-1)]) .ret) .skip)) (.seq (Ar [0,1,5] [Am 19 1,Ae .add 20 19 1,Am 1 20]) (.seq (An1 [0,1,5] 27 1 [Am 21 0,Am 22 5,Ai 2 23 21 22,Af 24 23 1,Al 25 24,Am 26 1,Ac2 181 27 25 26,Am 1 27]) (.seq (Ar [0,1,5,29] [Am 28 1,Ae .lss 29 28 0]) (.cond (.t 29) (.seq (Ar [4] [Ak 4 (-1)]) .ret) .skip)))))) (Ar [0,1,5] [Am 10 5,Ae .add 11 10 1,Am 5 11]))
def pb179 : PC :=
.seq (Ar [0,1] [Ak 4 0]) (.seq (.seq (Ar [0,1,5] [Ak 5 0]) (.blk 0 (.loop pl179_0))) (.seq (Ar [1,4] [Am 30 1,Am 4 30]) .ret))
def pf179 : PF := ⟨[.s 4],[],pb179⟩

def pl180_0 : PC :=
.seq (.seq (Ar [0,1,5,9] [Am 6 5,Am 7 0,Az 8 7,Ab .lss 9 6 8]) (Aj 9 0)) (.seq (.blk 1 (.seq (.seq (Ar [0,1,5,18] [Am 12 0,Am 13 5,Ai 25 14 12 13,Af 15 14 0,Al 16 15,Am 17 1,Ab .neq 18 16 17]) (.cond (.t 18) (.seq (Ar [4] [Ak 4 (-1)]) .ret) .skip)) (.seq (Ar [0,1,5] [Am 19 1,Ae .add 20 19 1,Am 1 20]) (.seq (.seq (Ar [0,1,5,27] [Am 21 0,Am 22 5,Ai 25 23 21 22,Af 24 23 1,Al 25 24,Am 26 1,Ab .neq 27 25 26]) (.cond (.t 27) (.seq (Ar [4] [Ak 4 (-1)]) .ret) .skip)) (.seq (Ar [0,1,5] [Am 28 1,Ae .add 29 28 1,Am 1 29]) (.seq (.seq (Ar [0,1,5,36] [Am 30 0,Am 31 5,Ai 25 32 30 31,Af 33 32 2,Al 34 33,Am 35 1,Ab .neq 36 34 35]) (.cond (.t 36) (.seq (Ar [4] [Ak 4 (-1)]) .ret) .skip)) (.seq (Ar [0,1,5] [Am 37 1,Ae .add 38 37 1,Am 1 38]) (.seq (An1 [0,1,5] 45 1 [Am 39 0,Am 40 5,Ai 25 41 39 40,Af 42 41 3,Al 43 42,Am 44 1,Ac2 181 45 43 44,Am 1 45]) (.seq (.seq (Ar [0,1,5,47] [Am 46 1,Ae .lss 47 46 0]) (.cond (.t 47) (.seq (Ar [4] [Ak 4 (-1)]) .ret) .skip)) (.seq (.seq (Ar [0,1,5,54] [Am 48 0,Am 49 5,Ai 25 50 48 49,Af 51 50 4,Al 52 51,Am 53 1,Ab .neq 54 52 53]) (.cond (.t 54) (.seq (Ar [4] [Ak 4 (-1)]) .ret) .skip)) (.seq (Ar [0,1,5] [Am 55 1,Ae .add 56 55 1,Am 1 56]) (.seq (.seq (Ar [0,1,5,64] [Am 57 0,Am 58 5,Ai 25 59 57 58,Af 60 59 5,Af 61 60 0,Al 62 61,Am 63 1,Ab .neq 64 62 63]) (.cond (.t 64) (.seq (Ar [4] [Ak 4 (-1)]) .ret) .skip)) (.seq (Ar [0,1,5] [Am 65 1,Ae .add 66 65 1,Am 1 66]) (.seq (.seq (Ar [0,1,5,75] [Am 67 0,Am 68 5,Ai 25 69 67 68,Af 70 69 5,Af 71 70 1,Af 72 71 0,Al 73 72,Am 74 1,Ab .neq 75 73 74]) (.cond (.t 75) (.seq (Ar [4] [Ak 4 (-1)]) .ret) .skip)) (.seq (Ar [0,1,5] [Am 76 1,Ae .add 77 76 1,Am 1 77]) (.seq (.seq (Ar [0,1,5,86] [Am 78 0,Am 79 5,Ai 25 80 78 79,Af 81 80 5,Af 82 81 1,Af 83 82 1,Al 84 83,Am 85 1,Ab .neq 86 84 85]) (.cond (.t 86) (.seq (Ar [4] [Ak 4 (-1)]) .ret) .skip)) (.seq (Ar [0,1,5] [Am 87 1,Ae .add 88 87 1,Am 1 88]) (.seq (.seq (Ar [0,1,5,97] [Am 89 0,Am 90 5,Ai 25 91 89 90,Af 92 91 5,Af 93 92 1,Af 94 93 2,Al 95 94,Am 96 1,Ab .neq 97 95 96]) (.cond (.t 97) (.seq (Ar [4] [Ak 4 (-1)]) .ret) .skip)) (.seq (Ar [0,1,5] [Am 98 1,Ae .add 99 98 1,Am 1 99]) (.seq (.seq (Ar [0,1,5,109] [Am 100 0,Am 101 5,Ai 25 102 100 101,Af 103 102 5,Af 104 103 1,Af 105 104 3,Af 106 105 0,Al 107 106,Am 108 1,Ab .neq 109 107 108]) (.cond (.t 109) (.seq (Ar [4] [Ak 4 (-1)]) .ret) .skip)) (.seq (Ar [0,1,5] [Am 110 1,Ae .add 111 110 1,Am 1 111]) (.seq (.seq (Ar [0,1,5,121] [Am 112 0,Am 113 5,Ai 25 114 112 113,Af 115 114 5,Af 116 115 1,Af 117 116 3,Af 118 117 1,Al 119 118,Am 120 1,Ab .neq 121 119 120]) (.cond (.t 121) (.seq (Ar [4] [Ak 4 (-1)]) .ret) .skip)) (.seq (Ar [0,1,5] [Am 122 1,Ae .add 123 122 1,Am 1 123]) (.seq (.seq (.reg [0,1,5,134] [] [Am 124 0,Am 125 5,Ai 25 126 124 125,Af 127 126 5,Af 128 127 1,Af 129 128 3,Af 130 129 2,Al 131 130,Am 132 1,Ac1 196 133 132,Ab .neq 134 131 133] (some [(2,9),(7,9)])) (.cond (.t 134) (.seq (Ar [4] [Ak 4 (-1)]) .ret) .skip)) (.seq (Ar [0,1,5] [Am 135 1,Ae .add 136 135 1,Am 1 136]) (.seq (An1 [0,1,5] 145 1 [Am 137 0,Am 138 5,Ai 25 139 137 138,Af 140 139 5,Af 141 140 1,Af 142 141 6,Al 143 142,Am 144 1,Ac2 176 145 143 144,Am 1 145]) (.seq (.seq (Ar [0,1,5,147] [Am 146 1,Ae .lss 147 146 0]) (.cond (.t 147) (.seq (Ar [4] [Ak 4 (-1)]) .ret) .skip)) (.seq (.seq (Ar [0,1,5,155] [Am 148 0,Am 149 5,Ai 25 150 148 149,Af 151 150 5,Af 152 151 8,Al 153 152,Am 154 1,Ab .neq 155 153 154]) (.cond (.t 155) (.seq (Ar [4] [Ak 4 (-1)]) .ret) .skip)) (.seq (Ar [0,1,5] [Am 156 1,Ae .add 157 156 1,Am 1 157]) (.seq (An1 [0,1,5] 165 1 [Am 158 0,Am 159 5,Ai 25 160 158 159,Af 161 160 5,Af 162 161 9,Al 163 162,Am 164 1,Ac2 175 165 163 164,Am 1 165]) (.seq (.seq (Ar [0,1,5,167] [Am 166 1,Ae .lss 167 166 0]) (.cond (.t 167) (.seq (Ar [4] [Ak 4 (-1)]) .ret) .skip)) (.seq (.seq (Ar [0,1,5,174] [Am 168 0,Am 169 5,Ai 25 170 168 169,Af 171 170 15,Al 172 171,Am 173 1,Ab .neq 174 172 173]) (.cond (.t 174) (.seq (Ar [4] [Ak 4 (-1)]) .ret) .skip)) (.seq (Ar [0,1,5] [Am 175 1,Ae .add 176 175 1,Am 1 176]) (.seq (.seq (Ar [0,1,5,183] [Am 177 0,Am 178 5,Ai 25 179 177 178,Af 180 179 16,Al 181 180,Am 182 1,Ab .neq 183 181 182]) (.cond (.t 183) (.seq (Ar [4] [Ak 4 (-1)]) .ret) .skip)) (.seq (Ar [0,1,5] [Am 184 1,Ae .add 185 184 1,Am 1 185]) (.seq (An1 [0,1,5] 192 1 [Am 186 0,Am 187 5,Ai 25 188 186 187,Af 189 188 17,Al 190 189,Am 191 1,Ac2 177 192 190 191,Am 1 192]) (.seq (.seq (Ar [0,1,5,194] [Am 193 1,Ae .lss 194 193 0]) (.cond (.t 194) (.seq (Ar [4] [Ak 4 (-1)]) .ret) .skip)) (.seq (.seq (Ar [0,1,5,201] [Am 195 0,Am 196 5,Ai 25 197 195 196,Af 198 197 18,Al 199 198,Am 200 1,Ab .neq 201 199 200]) (.cond (.t 201) (.seq (Ar [4] [Ak 4 (-1)]) .ret) .skip)) (.seq (Ar [0,1,5] [Am 202 1,Ae .add 203 202 1,Am 1 203]) (.seq (.seq (Ar [0,1,5,210] [Am 204 0,Am 205 5,Ai 25 206 204 205,Af 207 206 19,Al 208 207,Am 209 1,Ab .neq 210 208 209]) (.cond (.t 210) (.seq (Ar [4] [Ak 4 (-1)]) .ret) .skip)) (.seq (Ar [0,1,5] [Am 211 1,Ae .add 212 211 1,Am 1 212]) (.seq (.seq (Ar [0,1,5,219] [Am 213 0,Am 214 5,Ai 25 215 213 214,Af 216 215 20,Al 217 216,Am 218 1,Ab .neq 219 217 218]) (.cond (.t 219) (.seq (Ar [4] [Ak 4 (-1)]) .ret) .skip)) (.seq (Ar [0,1,5] [Am 220 1,Ae .add 221 220 1,Am 1 221]) (.seq (.seq (Ar [0,1,5,228] [Am 222 0,Am 223 5,Ai 25 224 222 223,Af 225 224 21,Al 226 225,Am 227 1,Ab .neq 228 226 227]) (.cond (.t 228) (.seq (Ar [4] [Ak 4 (-1)]) .ret) .skip)) (.seq (Ar [0,1,5] [Am 229 1,Ae .add 230 229 1,Am 1 230]) (.seq (.seq (Ar [0,1,5,237] [Am 231 0,Am 232 5,Ai 25 233 231 232,Af 234 233 22,Al 235 234,Am 236 1,Ab .neq 237 235 236]) (.cond (.t 237) (.seq (Ar [4] [Ak 4 (-1)]) .ret) .skip)) (.seq (Ar [0,1,5] [Am 238 1,Ae .add 239 238 1,Am 1 239]) (.seq (.seq (Ar [0,1,5,248] [Am 240 0,Am 241 5,Ai 25 242 240 241,Af 243 242 23,Al 244 243,Am 245 1,Ae .rem 246 245 3,Ae .eql 247 246 0,Ao 248 (.eqb true (.t 244) (.t 247))]) (.cond (.t 248) (.seq (Ar [4] [Ak 4 (-1)]) .ret) .skip)) (.seq (Ar [0,1,5] [Am 249 1,Ae .add 250 249 1,Am 1 250]) (.seq (An1 [0,1,5] 257 1 [Am 251 0,Am 252 5,Ai 25 253 251 252,Af 254 253 24,Al 255 254,Am 256 1,Ac2 178 257 255 256,Am 1 257]) (.seq (Ar [0,1,5,259] [Am 258 1,Ae .lss 259 258 0]) (.cond (.t 259) (.seq (Ar [4] [Ak 4 (-1)]) .ret) .skip)))))))))))))))))))))))))))))))))))))))))))))))))))) (Ar [0,1,5] [Am 10 5,Ae .add 11 10 1,Am 5 11]))
def pb180 : PC :=
.seq (Ar [0,1] [Ak 4 0]) (.seq (.seq (Ar [0,1,5] [Ak 5 0]) (.blk 0 (.loop pl180_0))) (.seq (Ar [1,4] [Am 260 1,Am 4 260]) .ret))
def pf180 : PF := ⟨[.s 4],[],pb180⟩

def pl181_0 : PC :=
.seq (.seq (Ar [0,1,5,9] [Am 6 5,Am 7 0,Az 8 7,Ab .lss 9 6 8]) (Aj 9 0)) (.seq (.blk 1 (.seq (.seq (Ar [0,1,5,18] [Am 12 0,Am 13 5,Ai 3 14 12 13,Af 15 14 0,Al 16 15,Am 17 1,Ab .neq 18 16 17]) (.cond (.t 18) (.seq (Ar [4] [Ak 4 (-1)]) .ret) .skip)) (.seq (Ar [0,1,5] [Am 19 1,Ae .add 20 19 1,Am 1 20]) (.seq (.seq (Ar [0,1,5,27] [Am 21 0,Am 22 5,Ai 3 23 21 22,Af 24 23 1,Al 25 24,Am 26 1,Ab .neq 27 25 26]) (.cond (.t 27) (.seq (Ar [4] [Ak 4 (-1)]) .ret) .skip)) (.seq (Ar [0,1,5] [Am 28 1,Ae .add 29 28 1,Am 1 29]) (.seq (.seq (.reg [0,1,5,37] [] [Am 30 0,Am 31 5,Ai 3 32 30 31,Af 33 32 2,Al 34 33,Am 35 1,Ac1 196 36 35,Ab .neq 37 34 36] (some [(2,6),(4,6)])) (.cond (.t 37) (.seq (Ar [4] [Ak 4 (-1)]) .ret) .skip)) (Ar [0,1,5] [Am 38 1,Ae .add 39 38 1,Am 1 39]))))))) (Ar [0,1,5] [Am 10 5,Ae .add 11 10 1,Am 5 11]))
def pb181 : PC :=
.seq (Ar [0,1] [Ak 4 0]) (.seq (.seq (Ar [0,1,5] [Ak 5 0]) (.blk 0 (.loop pl181_0))) (.seq (Ar [4] [Am 40 1,Am 4 40]) .ret))
def pf181 : PF := ⟨[.s 4],[],pb181⟩

def pb182 : PC :=
.seq (Ar [1,2] [Ao 2 (.box 14 (.t 0)),Ak 4 0]) (.seq (An1 [1,2] 8 1 [Af 5 2 0,AL' 3 6 5,Am 7 1,Ac2 171 8 6 7,Am 1 8]) (.seq (.seq (Ar [1,2,10] [Am 9 1,Ae .lss 10 9 0]) (.cond (.t 10) (.seq (Ar [4] [Ak 4 (-1)]) .ret) .skip)) (.seq (An1 [1,2] 14 1 [Af 11 2 6,AL' 2 12 11,Am 13 1,Ac2 174 14 12 13,Am 1 14]) (.seq (.seq (Ar [1,2,16] [Am 15 1,Ae .lss 16 15 0]) (.cond (.t 16) (.seq (Ar [4] [Ak 4 (-1)]) .ret) .skip)) (.seq (An1 [1,2] 20 1 [Af 17 2 8,Al 18 17,Am 19 1,Ac2 168 20 18 19,Am 1 20]) (.seq (.seq (Ar [1,2,22] [Am 21 1,Ae .lss 22 21 0]) (.cond (.t 22) (.seq (Ar [4] [Ak 4 (-1)]) .ret) .skip)) (.seq (An1 [1,2] 26 1 [Af 23 2 9,Al 24 23,Am 25 1,Ac2 175 26 24 25,Am 1 26]) (.seq (.seq (Ar [1,2,28] [Am 27 1,Ae .lss 28 27 0]) (.cond (.t 28) (.seq (Ar [4] [Ak 4 (-1)]) .ret) .skip)) (.seq (An1 [1,2] 32 1 [Af 29 2 10,Al 30 29,Am 31 1,Ac2 172 32 30 31,Am 1 32]) (.seq (.seq (Ar [1,2,34] [Am 33 1,Ae .lss 34 33 0]) (.cond (.t 34) (.seq (Ar [4] [Ak 4 (-1)]) .ret) .skip)) (.seq (An1 [1,2] 38 1 [Af 35 2 11,Al 36 35,Am 37 1,Ac2 175 38 36 37,Am 1 38]) (.seq (.seq (Ar [1,2,40] [Am 39 1,Ae .lss 40 39 0]) (.cond (.t 40) (.seq (Ar [4] [Ak 4 (-1)]) .ret) .skip)) (.seq (An1 [1,2] 44 1 [Af 41 2 12,Al 42 41,Am 43 1,Ac2 180 44 42 43,Am 1 44]) (.seq (.seq (Ar [1,2,46] [Am 45 1,Ae .lss 46 45 0]) (.cond (.t 46) (.seq (Ar [4] [Ak 4 (-1)]) .ret) .skip)) (.seq (An1 [1] 50 1 [Af 47 2 13,Al 48 47,Am 49 1,Ac2 173 50 48 49,Am 1 50]) (.seq (.seq (Ar [1,52] [Am 51 1,Ae .lss 52 51 0]) (.cond (.t 52) (.seq (Ar [4] [Ak 4 (-1)]) .ret) .skip)) (.seq (Ar [1,4] [Am 53 1,Am 4 53]) .ret)))))))))))))))))
def pf182 : PF := ⟨[.s 4],[],pb182⟩

def pl183_0 : PC :=
.seq (.seq (Ar [0,1,5,9] [Am 6 5,Am 7 0,Az 8 7,Ab .lss 9 6 8]) (Aj 9 0)) (.seq (.blk 1 (.seq (Ar [0,1,5] [Am 12 0,Am 13 5,Am 14 1,Ai 5 15 12 13,Af 16 15 0,As 1 16 14]) (.seq (Ar [0,1,5] [Am 17 1,Ae .add 18 17 1,Am 1 18]) (.seq (Ar [0,1,5] [Am 19 0,Am 20 5,Am 21 1,Ai 5 22 19 20,Af 23 22 1,As 1 23 21]) (.seq (Ar [0,1,5] [Am 24 1,Ae .add 25 24 1,Am 1 25]) (.seq (Ar [0,1,5] [Am 26 0,Am 27 5,Am 28 1,Ai 5 29 26 27,Af 30 29 2,Af 31 30 0,As 1 31 28]) (.seq (Ar [0,1,5] [Am 32 1,Ae .add 33 32 1,Am 1 33]) (.seq (An1 [0,1,5] 41 1 [Am 34 0,Am 35 5,Ai 5 36 34 35,Af 37 36 2,Af 38 37 1,Al 39 38,Am 40 1,Ao 41 (.call 194 [0] [(.t 39),(.t 40)]),Am 1 41]) (An1 [0,1,5] 48 1 [Am 42 0,Am 43 5,Ai 5 44 42 43,Af 45 44 4,Al 46 45,Am 47 1,Ao 48 (.call 184 [0] [(.t 46),(.t 47)]),Am 1 48]))))))))) (Ar [0,1,5] [Am 10 5,Ae .add 11 10 1,Am 5 11]))
def pb183 : PC :=
.seq (Ar [0,1] [Ak 4 0]) (.seq (.seq (Ar [0,1,5] [Ak 5 0]) (.blk 0 (.loop pl183_0))) (.seq (Ar [0,1,4] [Am 49 1,Am 4 49]) .ret))
def pf183 : PF := ⟨[.s 4],[0],pb183⟩

def pl184_0 : PC :=
.seq (.seq (Ar [0,1,5,9] [Am 6 5,Am 7 0,Az 8 7,Ab .lss 9 6 8]) (Aj 9 0)) (.seq (.blk 1 (.seq (Ar [0,1,5] [Am 12 0,Am 13 5,Am 14 1,Ao 15 (.cvi .u8 (.t 14)),Ai 1 16 12 13,As 1 16 15]) (Ar [0,1,5] [Am 17 1,Ae .add 18 17 1,Am 1 18]))) (Ar [0,1,5] [Am 10 5,Ae .add 11 10 1,Am 5 11]))
def pb184 : PC :=
.seq (Ar [0,1] [Ak 4 0]) (.seq (.seq (Ar [0,1,5] [Ak 5 0]) (.blk 0 (.loop pl184_0))) (.seq (Ar [0,4] [Am 19 1,Am 4 19]) .ret))
def pf184 : PF := ⟨[.s 4],[0],pb184⟩

def pb186 : PC :=
.seq (Ar [0,1,2] [Ao 2 (.box 3 (.t 0)),Ak 4 0]) (.seq (An1 [0,1] 8 1 [Af 5 2 0,Al 6 5,Am 7 1,Ao 8 (.call 190 [0] [(.t 6),(.t 7)]),Am 1 8]) (.seq (Ar [0,1,4] [Am 9 1,Am 4 9]) .ret))
def pf186 : PF := ⟨[.s 4],[0],pb186⟩

def pl187_0 : PC :=
.seq (.seq (Ar [0,1,5,9] [Am 6 5,Am 7 0,Az 8 7,Ab .lss 9 6 8]) (Aj 9 0)) (.seq (.blk 1 (.seq (Ar [0,1,5] [Am 12 0,Am 13 5,Am 14 1,Ai 3 15 12 13,Af 16 15 0,As 1 16 14]) (.seq (Ar [0,1,5] [Am 17 1,Ae .add 18 17 1,Am 1 18]) (.seq (Ar [0,1,5] [Am 19 0,Am 20 5,Am 21 1,Ai 3 22 19 20,Af 23 22 1,As 1 23 21]) (.seq (Ar [0,1,5] [Am 24 1,Ae .add 25 24 1,Am 1 25]) (.seq (Ar [0,1,5] [Am 26 0,Am 27 5,Am 28 1,Ai 3 29 26 27,Af 30 29 2,As 1 30 28]) (Ar [0,1,5] [Am 31 1,Ae .add 32 31 1,Am 1 32]))))))) (Ar [0,1,5] [Am 10 5,Ae .add 11 10 1,Am 5 11]))
def pb187 : PC :=
.seq (Ar [0,1] [Ak 4 0]) (.seq (.seq (Ar [0,1,5] [Ak 5 0]) (.blk 0 (.loop pl187_0))) (.seq (Ar [0,4] [Am 33 1,Am 4 33]) .ret))
def pf187 : PF := ⟨[.s 4],[0],pb187⟩

def pl188_0 : PC :=
.seq (.seq (Ar [0,1,5,9] [Am 6 5,Am 7 0,Az 8 7,Ab .lss 9 6 8]) (Aj 9 0)) (.seq (.blk 1 (.seq (Ar [0,1,5] [Am 12 0,Am 13 5,Am 14 1,Ai 25 15 12 13,Af 16 15 0,As 1 16 14]) (.seq (Ar [0,1,5] [Am 17 1,Ae .add 18 17 1,Am 1 18]) (.seq (Ar [0,1,5] [Am 19 0,Am 20 5,Am 21 1,Ai 25 22 19 20,Af 23 22 1,As 1 23 21]) (.seq (Ar [0,1,5] [Am 24 1,Ae .add 25 24 1,Am 1 25]) (.seq (An1 [0,1,5] 32 1 [Am 26 0,Am 27 5,Ai 25 28 26 27,Af 29 28 2,Al 30 29,Am 31 1,Ao 32 (.call 197 [0] [(.t 30),(.t 31)]),Am 1 32]) (.seq (Ar [0,1,5] [Am 33 0,Am 34 5,Am 35 1,Ai 25 36 33 34,Af 37 36 3,As 1 37 35]) (.seq (Ar [0,1,5] [Am 38 1,Ae .add 39 38 1,Am 1 39]) (.seq (Ar [0,1,5] [Am 40 0,Am 41 5,Am 42 1,Ai 25 43 40 41,Af 44 43 4,Af 45 44 0,As 1 45 42]) (.seq (Ar [0,1,5] [Am 46 1,Ae .add 47 46 1,Am 1 47]) (.seq (Ar [0,1,5] [Am 48 0,Am 49 5,Am 50 1,Ai 25 51 48 49,Af 52 51 4,Af 53 52 1,Af 54 53 0,As 1 54 50]) (.seq (Ar [0,1,5] [Am 55 1,Ae .add 56 55 1,Am 1 56]) (.seq (Ar [0,1,5] [Am 57 0,Am 58 5,Am 59 1,Ai 25 60 57 58,Af 61 60 4,Af 62 61 1,Af 63 62 1,As 1 63 59]) (.seq (Ar [0,1,5] [Am 64 1,Ae .add 65 64 1,Am 1 65]) (.seq (Ar [0,1,5] [Am 66 0,Am 67 5,Am 68 1,Ai 25 69 66 67,Af 70 69 4,Af 71 70 1,Af 72 71 2,As 1 72 68]) (.seq (Ar [0,1,5] [Am 73 1,Ae .add 74 73 1,Am 1 74]) (.seq (Ar [0,1,5] [Am 75 0,Am 76 5,Am 77 1,Ai 25 78 75 76,Af 79 78 4,Af 80 79 1,Af 81 80 3,Af 82 81 0,As 1 82 77]) (.seq (Ar [0,1,5] [Am 83 1,Ae .add 84 83 1,Am 1 84]) (.seq (Ar [0,1,5] [Am 85 0,Am 86 5,Am 87 1,Ai 25 88 85 86,Af 89 88 4,Af 90 89 1,Af 91 90 3,Af 92 91 1,As 1 92 87]) (.seq (Ar [0,1,5] [Am 93 1,Ae .add 94 93 1,Am 1 94]) (.seq (Ar [0,1,5] [Am 95 0,Am 96 5,Am 97 1,Ac1 196 98 97,Ai 25 99 95 96,Af 100 99 4,Af 101 100 1,Af 102 101 3,Af 103 102 2,As 1 103 98]) (.seq (Ar [0,1,5] [Am 104 1,Ae .add 105 104 1,Am 1 105]) (.seq (An1 [0,1,5] 114 1 [Am 106 0,Am 107 5,Ai 25 108 106 107,Af 109 108 4,Af 110 109 1,Af 111 110 6,Al 112 111,Am 113 1,Ao 114 (.call 191 [0] [(.t 112),(.t 113)]),Am 1 114]) (.seq (Ar [0,1,5] [Am 115 0,Am 116 5,Am 117 1,Ai 25 118 115 116,Af 119 118 4,Af 120 119 8,As 1 120 117]) (.seq (Ar [0,1,5] [Am 121 1,Ae .add 122 121 1,Am 1 122]) (.seq (An1 [0,1,5] 130 1 [Am 123 0,Am 124 5,Ai 25 125 123 124,Af 126 125 4,Af 127 126 9,Al 128 127,Am 129 1,Ao 130 (.call 190 [0] [(.t 128),(.t 129)]),Am 1 130]) (.seq (An1 [0,1,5] 138 1 [Am 131 0,Am 132 5,Ai 25 133 131 132,Af 134 133 14,Af 135 134 0,Al 136 135,Am 137 1,Ao 138 (.call 193 [0] [(.t 136),(.t 137)]),Am 1 138]) (.seq (Ar [0,1,5] [Am 139 0,Am 140 5,Am 141 1,Ai 25 142 139 140,Af 143 142 14,Af 144 143 1,As 1 144 141]) (.seq (Ar [0,1,5] [Am 145 1,Ae .add 146 145 1,Am 1 146]) (.seq (Ar [0,1,5] [Am 147 0,Am 148 5,Am 149 1,Ae .rem 150 149 3,Ae .eql 151 150 0,Ai 25 152 147 148,Af 153 152 14,Af 154 153 2,As 1 154 151]) (.seq (Ar [0,1,5] [Am 155 1,Ae .add 156 155 1,Am 1 156]) (.seq (Ar [0,1,5] [Am 157 0,Am 158 5,Am 159 1,Ai 25 160 157 158,Af 161 160 14,Af 162 161 3,Af 163 162 0,As 1 163 159]) (.seq (Ar [0,1,5] [Am 164 1,Ae .add 165 164 1,Am 1 165]) (.seq (Ar [0,1,5] [Am 166 0,Am 167 5,Am 168 1,Ai 25 169 166 167,Af 170 169 14,Af 171 170 3,Af 172 171 1,As 1 172 168]) (.seq (Ar [0,1,5] [Am 173 1,Ae .add 174 173 1,Am 1 174]) (.seq (Ar [0,1,5] [Am 175 0,Am 176 5,Am 177 1,Ac1 196 178 177,Ai 25 179 175 176,Af 180 179 14,Af 181 180 3,Af 182 181 2,As 1 182 178]) (.seq (Ar [0,1,5] [Am 183 1,Ae .add 184 183 1,Am 1 184]) (.seq (Ar [0,1,5] [Am 185 0,Am 186 5,Am 187 1,Ai 25 188 185 186,Af 189 188 20,As 1 189 187]) (.seq (Ar [0,1,5] [Am 190 1,Ae .add 191 190 1,Am 1 191]) (.seq (Ar [0,1,5] [Am 192 0,Am 193 5,Am 194 1,Ai 25 195 192 193,Af 196 195 21,As 1 196 194]) (.seq (Ar [0,1,5] [Am 197 1,Ae .add 198 197 1,Am 1 198]) (.seq (Ar [0,1,5] [Am 199 0,Am 200 5,Am 201 1,Ai 25 202 199 200,Af 203 202 22,As 1 203 201]) (.seq (Ar [0,1,5] [Am 204 1,Ae .add 205 204 1,Am 1 205]) (.seq (Ar [0,1,5] [Am 206 0,Am 207 5,Am 208 1,Ai 25 209 206 207,Af 210 209 23,As 1 210 208]) (.seq (Ar [0,1,5] [Am 211 1,Ae .add 212 211 1,Am 1 212]) (.seq (Ar [0,1,5] [Am 213 0,Am 214 5,Am 215 1,Ai 25 216 213 214,Af 217 216 24,As 1 217 215]) (Ar [0,1,5] [Am 218 1,Ae .add 219 218 1,Am 1 219]))))))))))))))))))))))))))))))))))))))))))))))) (Ar [0,1,5] [Am 10 5,Ae .add 11 10 1,Am 5 11]))
def pb188 : PC :=
.seq (Ar [0,1] [Ak 4 0]) (.seq (.seq (Ar [0,1,5] [Ak 5 0]) (.blk 0 (.loop pl188_0))) (.seq (Ar [0,4] [Am 220 1,Am 4 220]) .ret))
def pf188 : PF := ⟨[.s 4],[0],pb188⟩

def pb189 : PC :=
.seq (Ar [0,1,2] [Ao 2 (.box 2 (.t 0)),Ak 4 0]) (.seq (An1 [0,1] 8 1 [Af 5 2 1,Al 6 5,Am 7 1,Ao 8 (.call 192 [0] [(.t 6),(.t 7)]),Am 1 8]) (.seq (Ar [0,1,4] [Am 9 1,Am 4 9]) .ret))
def pf189 : PF := ⟨[.s 4],[0],pb189⟩

def pl190_0 : PC :=
.seq (.seq (Ar [0,1,5,9] [Am 6 5,Am 7 0,Az 8 7,Ab .lss 9 6 8]) (Aj 9 0)) (.seq (.blk 1 (.seq (Ar [0,1,5] [Am 12 0,Am 13 5,Am 14 1,Ai 1 15 12 13,As 1 15 14]) (Ar [0,1,5] [Am 16 1,Ae .add 17 16 1,Am 1 17]))) (Ar [0,1,5] [Am 10 5,Ae .add 11 10 1,Am 5 11]))
def pb190 : PC :=
.seq (Ar [0,1] [Ak 4 0]) (.seq (.seq (Ar [0,1,5] [Ak 5 0]) (.blk 0 (.loop pl190_0))) (.seq (Ar [0,4] [Am 18 1,Am 4 18]) .ret))
def pf190 : PF := ⟨[.s 4],[0],pb190⟩

def pl191_0 : PC :=
.seq (.seq (Ar [0,1,5,9] [Am 6 5,Am 7 0,Az 8 7,Ab .lss 9 6 8]) (Aj 9 0)) (.seq (.blk 1 (.seq (Ar [0,1,5] [Am 12 0,Am 13 5,Am 14 1,Ai 7 15 12 13,Af 16 15 0,As 1 16 14]) (.seq (Ar [0,1,5] [Am 17 1,Ae .add 18 17 1,Am 1 18]) (.seq (Ar [0,1,5] [Am 19 0,Am 20 5,Am 21 1,Ai 7 22 19 20,Af 23 22 1,As 1 23 21]) (.seq (Ar [0,1,5] [Am 24 1,Ae .add 25 24 1,Am 1 25]) (.seq (Ar [0,1,5] [Am 26 0,Am 27 5,Am 28 1,Ai 7 29 26 27,Af 30 29 2,As 1 30 28]) (.seq (Ar [0,1,5] [Am 31 1,Ae .add 32 31 1,Am 1 32]) (.seq (Ar [0,1,5] [Am 33 0,Am 34 5,Am 35 1,Ai 7 36 33 34,Af 37 36 3,Af 38 37 0,As 1 38 35]) (.seq (Ar [0,1,5] [Am 39 1,Ae .add 40 39 1,Am 1 40]) (.seq (Ar [0,1,5] [Am 41 0,Am 42 5,Am 43 1,Ai 7 44 41 42,Af 45 44 3,Af 46 45 1,As 1 46 43]) (.seq (Ar [0,1,5] [Am 47 1,Ae .add 48 47 1,Am 1 48]) (.seq (Ar [0,1,5] [Am 49 0,Am 50 5,Am 51 1,Ac1 196 52 51,Ai 7 53 49 50,Af 54 53 3,Af 55 54 2,As 1 55 52]) (.seq (Ar [0,1,5] [Am 56 1,Ae .add 57 56 1,Am 1 57]) (An1 [0,1,5] 64 1 [Am 58 0,Am 59 5,Ai 7 60 58 59,Af 61 60 6,Al 62 61,Am 63 1,Ao 64 (.call 191 [0] [(.t 62),(.t 63)]),Am 1 64])))))))))))))) (Ar [0,1,5] [Am 10 5,Ae .add 11 10 1,Am 5 11]))
def pb191 : PC :=
.seq (Ar [0,1] [Ak 4 0]) (.seq (.seq (Ar [0,1,5] [Ak 5 0]) (.blk 0 (.loop pl191_0))) (.seq (Ar [0,1,4] [Am 65 1,Am 4 65]) .ret))
def pf191 : PF := ⟨[.s 4],[0],pb191⟩

def pl192_0 : PC :=
.seq (.seq (Ar [0,1,5,9] [Am 6 5,Am 7 0,Az 8 7,Ab .lss 9 6 8]) (Aj 9 0)) (.seq (.blk 1 (.seq (Ar [0,1,5] [Am 12 0,Am 13 5,Am 14 1,Ai 5 15 12 13,Af 16 15 0,As 1 16 14]) (.seq (Ar [0,1,5] [Am 17 1,Ae .add 18 17 1,Am 1 18]) (.seq (Ar [0,1,5] [Am 19 0,Am 20 5,Am 21 1,Ai 5 22 19 20,Af 23 22 1,As 1 23 21]) (.seq (Ar [0,1,5] [Am 24 1,Ae .add 25 24 1,Am 1 25]) (.seq (Ar [0,1,5] [Am 26 0,Am 27 5,Am 28 1,Ai 5 29 26 27,Af 30 29 2,As 1 30 28]) (.seq (Ar [0,1,5] [Am 31 1,Ae .add 32 31 1,Am 1 32]) (.seq (Ar [0,1,5] [Am 33 0,Am 34 5,Am 35 1,Ai 5 36 33 34,Af 37 36 3,As 1 37 35]) (.seq (Ar [0,1,5] [Am 38 1,Ae .add 39 38 1,Am 1 39]) (.seq (Ar [0,1,5] [Am 40 0,Am 41 5,Am 42 1,Ai 5 43 40 41,Af 44 43 4,As 1 44 42]) (Ar [0,1,5] [Am 45 1,Ae .add 46 45 1,Am 1 46]))))))))))) (Ar [0,1,5] [Am 10 5,Ae .add 11 10 1,Am 5 11]))
def pb192 : PC :=
.seq (Ar [0,1] [Ak 4 0]) (.seq (.seq (Ar [0,1,5] [Ak 5 0]) (.blk 0 (.loop pl192_0))) (.seq (Ar [0,4] [Am 47 1,Am 4 47]) .ret))
def pf192 : PF := ⟨[.s 4],[0],pb192⟩

def pl193_0 : PC :=
.seq (.seq (Ar [0,1,5,9] [Am 6 5,Am 7 0,Az 8 7,Ab .lss 9 6 8]) (Aj 9 0)) (.seq (.blk 1 (.seq (Ar [0,1,5] [Am 12 0,Am 13 5,Am 14 1,Ai 2 15 12 13,Af 16 15 0,As 1 16 14]) (.seq (Ar [0,1,5] [Am 17 1,Ae .add 18 17 1,Am 1 18]) (An1 [0,1,5] 25 1 [Am 19 0,Am 20 5,Ai 2 21 19 20,Af 22 21 1,Al 23 22,Am 24 1,Ao 25 (.call 197 [0] [(.t 23),(.t 24)]),Am 1 25])))) (Ar [0,1,5] [Am 10 5,Ae .add 11 10 1,Am 5 11]))
def pb193 : PC :=
.seq (Ar [0,1] [Ak 4 0]) (.seq (.seq (Ar [0,1,5] [Ak 5 0]) (.blk 0 (.loop pl193_0))) (.seq (Ar [0,1,4] [Am 26 1,Am 4 26]) .ret))
def pf193 : PF := ⟨[.s 4],[0],pb193⟩

def pl194_0 : PC :=
.seq (.seq (Ar [0,1,5,9] [Am 6 5,Am 7 0,Az 8 7,Ab .lss 9 6 8]) (Aj 9 0)) (.seq (.blk 1 (.seq (Ar [0,1,5] [Am 12 0,Am 13 5,Am 14 1,Ai 2 15 12 13,Af 16 15 0,As 1 16 14]) (.seq (Ar [0,1,5] [Am 17 1,Ae .add 18 17 1,Am 1 18]) (An1 [0,1,5] 25 1 [Am 19 0,Am 20 5,Ai 2 21 19 20,Af 22 21 1,Al 23 22,Am 24 1,Ao 25 (.call 197 [0] [(.t 23),(.t 24)]),Am 1 25])))) (Ar [0,1,5] [Am 10 5,Ae .add 11 10 1,Am 5 11]))
def pb194 : PC :=
.seq (Ar [0,1] [Ak 4 0]) (.seq (.seq (Ar [0,1,5] [Ak 5 0]) (.blk 0 (.loop pl194_0))) (.seq (Ar [0,1,4] [Am 26 1,Am 4 26]) .ret))
def pf194 : PF := ⟨[.s 4],[0],pb194⟩

def pl195_0 : PC :=
.seq (.seq (Ar [0,1,5,9] [Am 6 5,Am 7 0,Az 8 7,Ab .lss 9 6 8]) (Aj 9 0)) (.seq (.blk 1 (.seq (Ar [0,1,5] [Am 12 0,Am 13 5,Am 14 1,Ai 25 15 12 13,Af 16 15 0,As 1 16 14]) (.seq (Ar [0,1,5] [Am 17 1,Ae .add 18 17 1,Am 1 18]) (.seq (Ar [0,1,5] [Am 19 0,Am 20 5,Am 21 1,Ai 25 22 19 20,Af 23 22 1,As 1 23 21]) (.seq (Ar [0,1,5] [Am 24 1,Ae .add 25 24 1,Am 1 25]) (.seq (Ar [0,1,5] [Am 26 0,Am 27 5,Am 28 1,Ai 25 29 26 27,Af 30 29 2,As 1 30 28]) (.seq (Ar [0,1,5] [Am 31 1,Ae .add 32 31 1,Am 1 32]) (.seq (An1 [0,1,5] 39 1 [Am 33 0,Am 34 5,Ai 25 35 33 34,Af 36 35 3,Al 37 36,Am 38 1,Ao 39 (.call 197 [0] [(.t 37),(.t 38)]),Am 1 39]) (.seq (Ar [0,1,5] [Am 40 0,Am 41 5,Am 42 1,Ai 25 43 40 41,Af 44 43 4,As 1 44 42]) (.seq (Ar [0,1,5] [Am 45 1,Ae .add 46 45 1,Am 1 46]) (.seq (Ar [0,1,5] [Am 47 0,Am 48 5,Am 49 1,Ai 25 50 47 48,Af 51 50 5,Af 52 51 0,As 1 52 49]) (.seq (Ar [0,1,5] [Am 53 1,Ae .add 54 53 1,Am 1 54]) (.seq (Ar [0,1,5] [Am 55 0,Am 56 5,Am 57 1,Ai 25 58 55 56,Af 59 58 5,Af 60 59 1,Af 61 60 0,As 1 61 57]) (.seq (Ar [0,1,5] [Am 62 1,Ae .add 63 62 1,Am 1 63]) (.seq (Ar [0,1,5] [Am 64 0,Am 65 5,Am 66 1,Ai 25 67 64 65,Af 68 67 5,Af 69 68 1,Af 70 69 1,As 1 70 66]) (.seq (Ar [0,1,5] [Am 71 1,Ae .add 72 71 1,Am 1 72]) (.seq (Ar [0,1,5] [Am 73 0,Am 74 5,Am 75 1,Ai 25 76 73 74,Af 77 76 5,Af 78 77 1,Af 79 78 2,As 1 79 75]) (.seq (Ar [0,1,5] [Am 80 1,Ae .add 81 80 1,Am 1 81]) (.seq (Ar [0,1,5] [Am 82 0,Am 83 5,Am 84 1,Ai 25 85 82 83,Af 86 85 5,Af 87 86 1,Af 88 87 3,Af 89 88 0,As 1 89 84]) (.seq (Ar [0,1,5] [Am 90 1,Ae .add 91 90 1,Am 1 91]) (.seq (Ar [0,1,5] [Am 92 0,Am 93 5,Am 94 1,Ai 25 95 92 93,Af 96 95 5,Af 97 96 1,Af 98 97 3,Af 99 98 1,As 1 99 94]) (.seq (Ar [0,1,5] [Am 100 1,Ae .add 101 100 1,Am 1 101]) (.seq (Ar [0,1,5] [Am 102 0,Am 103 5,Am 104 1,Ac1 196 105 104,Ai 25 106 102 103,Af 107 106 5,Af 108 107 1,Af 109 108 3,Af 110 109 2,As 1 110 105]) (.seq (Ar [0,1,5] [Am 111 1,Ae .add 112 111 1,Am 1 112]) (.seq (An1 [0,1,5] 121 1 [Am 113 0,Am 114 5,Ai 25 115 113 114,Af 116 115 5,Af 117 116 1,Af 118 117 6,Al 119 118,Am 120 1,Ao 121 (.call 191 [0] [(.t 119),(.t 120)]),Am 1 121]) (.seq (Ar [0,1,5] [Am 122 0,Am 123 5,Am 124 1,Ai 25 125 122 123,Af 126 125 5,Af 127 126 8,As 1 127 124]) (.seq (Ar [0,1,5] [Am 128 1,Ae .add 129 128 1,Am 1 129]) (.seq (An1 [0,1,5] 137 1 [Am 130 0,Am 131 5,Ai 25 132 130 131,Af 133 132 5,Af 134 133 9,Al 135 134,Am 136 1,Ao 137 (.call 190 [0] [(.t 135),(.t 136)]),Am 1 137]) (.seq (Ar [0,1,5] [Am 138 0,Am 139 5,Am 140 1,Ai 25 141 138 139,Af 142 141 15,As 1 142 140]) (.seq (Ar [0,1,5] [Am 143 1,Ae .add 144 143 1,Am 1 144]) (.seq (Ar [0,1,5] [Am 145 0,Am 146 5,Am 147 1,Ai 25 148 145 146,Af 149 148 16,As 1 149 147]) (.seq (Ar [0,1,5] [Am 150 1,Ae .add 151 150 1,Am 1 151]) (.seq (An1 [0,1,5] 158 1 [Am 152 0,Am 153 5,Ai 25 154 152 153,Af 155 154 17,Al 156 155,Am 157 1,Ao 158 (.call 192 [0] [(.t 156),(.t 157)]),Am 1 158]) (.seq (Ar [0,1,5] [Am 159 0,Am 160 5,Am 161 1,Ai 25 162 159 160,Af 163 162 18,As 1 163 161]) (.seq (Ar [0,1,5] [Am 164 1,Ae .add 165 164 1,Am 1 165]) (.seq (Ar [0,1,5] [Am 166 0,Am 167 5,Am 168 1,Ai 25 169 166 167,Af 170 169 19,As 1 170 168]) (.seq (Ar [0,1,5] [Am 171 1,Ae .add 172 171 1,Am 1 172]) (.seq (Ar [0,1,5] [Am 173 0,Am 174 5,Am 175 1,Ai 25 176 173 174,Af 177 176 20,As 1 177 175]) (.seq (Ar [0,1,5] [Am 178 1,Ae .add 179 178 1,Am 1 179]) (.seq (Ar [0,1,5] [Am 180 0,Am 181 5,Am 182 1,Ai 25 183 180 181,Af 184 183 21,As 1 184 182]) (.seq (Ar [0,1,5] [Am 185 1,Ae .add 186 185 1,Am 1 186]) (.seq (Ar [0,1,5] [Am 187 0,Am 188 5,Am 189 1,Ai 25 190 187 188,Af 191 190 22,As 1 191 189]) (.seq (Ar [0,1,5] [Am 192 1,Ae .add 193 192 1,Am 1 193]) (.seq (Ar [0,1,5] [Am 194 0,Am 195 5,Am 196 1,Ae .rem 197 196 3,Ae .eql 198 197 0,Ai 25 199 194 195,Af 200 199 23,As 1 200 198]) (.seq (Ar [0,1,5] [Am 201 1,Ae .add 202 201 1,Am 1 202]) (An1 [0,1,5] 209 1 [Am 203 0,Am 204 5,Ai 25 205 203 204,Af 206 205 24,Al 207 206,Am 208 1,Ao 209 (.call 193 [0] [(.t 207),(.t 208)]),Am 1 209])))))))))))))))))))))))))))))))))))))))))))))) (Ar [0,1,5] [Am 10 5,Ae .add 11 10 1,Am 5 11]))
def pb195 : PC :=
.seq (Ar [0,1] [Ak 4 0]) (.seq (.seq (Ar [0,1,5] [Ak 5 0]) (.blk 0 (.loop pl195_0))) (.seq (Ar [0,1,4] [Am 210 1,Am 4 210]) .ret))
def pf195 : PF := ⟨[.s 4],[0],pb195⟩

def pl196_0 : PC :=
.seq (.seq (Ar [0,3,7] [Am 6 0,Ae .gtr 7 6 0]) (Aj 7 0)) (.blk 1 (.seq (Ar [0,3] [Am 8 0,Ae .rem 9 8 10,Ao 10 (.bin .add (Av 48) (.t 9)),Ao 11 (.cvi .u8 (.t 10)),Ao 12 (.bsl 1 [.int .u8 0] 1 [(0,(.t 11))]),Ao 13 (.cvs (.t 12)),Am 14 3,Ab .add 15 13 14,Am 3 15]) (Ar [0,3] [Am 16 0,Ae .quo 17 16 10,Am 0 17])))
def pb196 : PC :=
.seq (Ar [0] [⟨some 2,.mv (.c A1),none⟩]) (.seq (.seq (Ar [0,5] [Am 4 0,Ae .leq 5 4 0]) (.cond (.t 5) (.seq (Ar [2] [⟨some 2,.mv (.c (.v false (.str ⟨#[109,48]⟩))),none⟩]) .ret) .skip)) (.seq (Ar [0,3] [⟨some 3,.mv (.c A1),none⟩]) (.seq (.blk 0 (.loop pl196_0)) (.seq (Ar [2] [Am 18 3,⟨some 19,.bin .add (.c (.v false (.str ⟨#[109]⟩))) (.t 18),none⟩,Am 2 19]) .ret))))
def pf196 : PF := ⟨[.s 2],[],pb196⟩

def pl197_0 : PC :=
.seq (.seq (Ar [0,1,5,9] [Am 6 5,Am 7 0,Az 8 7,Ab .lss 9 6 8]) (Aj 9 0)) (.seq (.blk 1 (.seq (Ar [0,1,5] [Am 12 0,Am 13 5,Am 14 1,Ai 3 15 12 13,Af 16 15 0,As 1 16 14]) (.seq (Ar [0,1,5] [Am 17 1,Ae .add 18 17 1,Am 1 18]) (.seq (Ar [0,1,5] [Am 19 0,Am 20 5,Am 21 1,Ai 3 22 19 20,Af 23 22 1,As 1 23 21]) (.seq (Ar [0,1,5] [Am 24 1,Ae .add 25 24 1,Am 1 25]) (.seq (Ar [0,1,5] [Am 26 0,Am 27 5,Am 28 1,Ac1 196 29 28,Ai 3 30 26 27,Af 31 30 2,As 1 31 29]) (Ar [0,1,5] [Am 32 1,Ae .add 33 32 1,Am 1 33]))))))) (Ar [0,1,5] [Am 10 5,Ae .add 11 10 1,Am 5 11]))
def pb197 : PC :=
.seq (Ar [0,1] [Ak 4 0]) (.seq (.seq (Ar [0,1,5] [Ak 5 0]) (.blk 0 (.loop pl197_0))) (.seq (Ar [0,4] [Am 34 1,Am 4 34]) .ret))
def pf197 : PF := ⟨[.s 4],[0],pb197⟩

def pb198 : PC :=
.seq (Ar [0,1,2] [Ao 2 (.box 14 (.t 0)),Ak 4 0]) (.seq (An1 [0,1,2] 8 1 [Af 5 2 0,AL' 3 6 5,Am 7 1,Ao 8 (.call 186 [0] [(.t 6),(.t 7)]),Am 1 8]) (.seq (An1 [0,1,2] 12 1 [Af 9 2 6,AL' 2 10 9,Am 11 1,Ao 12 (.call 189 [0] [(.t 10),(.t 11)]),Am 1 12]) (.seq (An1 [0,1,2] 16 1 [Af 13 2 8,Al 14 13,Am 15 1,Ao 16 (.call 183 [0] [(.t 14),(.t 15)]),Am 1 16]) (.seq (An1 [0,1,2] 20 1 [Af 17 2 9,Al 18 17,Am 19 1,Ao 20 (.call 190 [0] [(.t 18),(.t 19)]),Am 1 20]) (.seq (An1 [0,1,2] 24 1 [Af 21 2 10,Al 22 21,Am 23 1,Ao 24 (.call 187 [0] [(.t 22),(.t 23)]),Am 1 24]) (.seq (An1 [0,1,2] 28 1 [Af 25 2 11,Al 26 25,Am 27 1,Ao 28 (.call 190 [0] [(.t 26),(.t 27)]),Am 1 28]) (.seq (An1 [0,1,2] 32 1 [Af 29 2 12,Al 30 29,Am 31 1,Ao 32 (.call 195 [0] [(.t 30),(.t 31)]),Am 1 32]) (.seq (An1 [0,1] 36 1 [Af 33 2 13,Al 34 33,Am 35 1,Ao 36 (.call 188 [0] [(.t 34),(.t 35)]),Am 1 36]) (.seq (Ar [0,1,4] [Am 37 1,Am 4 37]) .ret)))))))))
def pf198 : PF := ⟨[.s 4],[0],pb198⟩

def pb210 : PC :=
.seq (Ar [1,2] [Ao 2 (.box 5 (.t 0)),Ak 4 0]) (.seq (An1 [1,2] 8 1 [Af 5 2 2,AL' 2 6 5,Am 7 1,Ac2 213 8 6 7,Am 1 8]) (.seq (.seq (Ar [1,2,10] [Am 9 1,Ae .lss 10 9 0]) (.cond (.t 10) (.seq (Ar [4] [Ak 4 (-1)]) .ret) .skip)) (.seq (An1 [1] 14 1 [Af 11 2 4,Al 12 11,Am 13 1,Ac2 212 14 12 13,Am 1 14]) (.seq (.seq (Ar [1,16] [Am 15 1,Ae .lss 16 15 0]) (.cond (.t 16) (.seq (Ar [4] [Ak 4 (-1)]) .ret) .skip)) (.seq (Ar [1,4] [Am 17 1,Am 4 17]) .ret)))))
def pf210 : PF := ⟨[.s 4],[],pb210⟩

def pl211_0 : PC :=
.seq (.seq (Ar [0,1,5,15] [Am 12 5,Am 13 0,Az 14 13,Ab .lss 15 12 14]) (Aj 15 0)) (.seq (.blk 1 (.seq (An1 [0,1,5] 23 1 [Am 18 0,Am 19 5,Ai 5 20 18 19,AL' 5 21 20,Am 22 1,Ac2 210 23 21 22,Am 1 23]) (.seq (Ar [0,1,5,25] [Am 24 1,Ae .lss 25 24 0]) (.cond (.t 25) (.seq (Ar [4] [Ak 4 (-1)]) .ret) .skip)))) (Ar [0,1,5] [Am 16 5,Ae .add 17 16 1,Am 5 17]))
def pb211 : PC :=
.seq (Ar [0,1] [Ak 4 0]) (.seq (Ar [0,1] [Am 6 1,Am 7 0,Az 8 7,Ab .sub 9 6 8,Am 1 9]) (.seq (.seq (Ar [0,1,11] [Am 10 1,Ae .lss 11 10 0]) (.cond (.t 11) (.seq (Ar [4] [Ak 4 (-1)]) .ret) .skip)) (.seq (.seq (Ar [0,1,5] [Ak 5 0]) (.blk 0 (.loop pl211_0))) (.seq (Ar [1,4] [Am 26 1,Am 4 26]) .ret))))
def pf211 : PF := ⟨[.s 4],[],pb211⟩

def pb212 : PC :=
.seq (Ar [0,1] [Ak 4 0]) (.seq (Ar [1] [Am 5 1,Am 6 0,Az 7 6,Ab .sub 8 5 7,Am 1 8]) (.seq (.seq (Ar [1,10] [Am 9 1,Ae .lss 10 9 0]) (.cond (.t 10) (.seq (Ar [4] [Ak 4 (-1)]) .ret) .skip)) (.seq (Ar [4] [Am 11 1,Am 4 11]) .ret)))
def pf212 : PF := ⟨[.s 4],[],pb212⟩

def pb213 : PC :=
.seq (Ar [1,2] [Ao 2 (.box 2 (.t 0)),Ak 4 0]) (.seq (An1 [1] 8 1 [Af 5 2 1,Al 6 5,Am 7 1,Ac2 228 8 6 7,Am 1 8]) (.seq (.seq (Ar [1,10] [Am 9 1,Ae .lss 10 9 0]) (.cond (.t 10) (.seq (Ar [4] [Ak 4 (-1)]) .ret) .skip)) (.seq (Ar [1,4] [Am 11 1,Am 4 11]) .ret)))
def pf213 : PF := ⟨[.s 4],[],pb213⟩

def pb214 : PC :=
.seq (Ar [1,2] [Ao 2 (.box 3 (.t 0)),Ak 4 0]) (.seq (An1 [1] 8 1 [Af 5 2 0,Al 6 5,Am 7 1,Ac2 219 8 6 7,Am 1 8]) (.seq (.seq (Ar [1,10] [Am 9 1,Ae .lss 10 9 0]) (.cond (.t 10) (.seq (Ar [4] [Ak 4 (-1)]) .ret) .skip)) (.seq (Ar [1,4] [Am 11 1,Am 4 11]) .ret)))
def pf214 : PF := ⟨[.s 4],[],pb214⟩

def pb215 : PC :=
.seq (Ar [0,1] [Ak 4 0]) (.seq (Ar [1] [Am 5 1,Am 6 0,Az 7 6,Ab .sub 8 5 7,Am 1 8]) (.seq (.seq (Ar [1,10] [Am 9 1,Ae .lss 10 9 0]) (.cond (.t 10) (.seq (Ar [4] [Ak 4 (-1)]) .ret) .skip)) (.seq (Ar [4] [Am 11 1,Am 4 11]) .ret)))
def pf215 : PF := ⟨[.s 4],[],pb215⟩

def pb216 : PC :=
.seq (Ar [1,2] [Ao 2 (.box 25 (.t 0)),Ak 4 0]) (.seq (An1 [1,2] 8 1 [Af 5 2 2,Al 6 5,Am 7 1,Ac2 232 8 6 7,Am 1 8]) (.seq (.seq (Ar [1,2,10] [Am 9 1,Ae .lss 10 9 0]) (.cond (.t 10) (.seq (Ar [4] [Ak 4 (-1)]) .ret) .skip)) (.seq (An1 [1,2] 14 1 [Af 11 2 4,AL' 10 12 11,Am 13 1,Ac2 222 14 12 13,Am 1 14]) (.seq (.seq (Ar [1,2,16] [Am 15 1,Ae .lss 16 15 0]) (.cond (.t 16) (.seq (Ar [4] [Ak 4 (-1)]) .ret) .skip)) (.seq (An1 [1] 20 1 [Af 17 2 14,AL' 6 18 17,Am 19 1,Ac2 224 20 18 19,Am 1 20]) (.seq (.seq (Ar [1,22] [Am 21 1,Ae .lss 22 21 0]) (.cond (.t 22) (.seq (Ar [4] [Ak 4 (-1)]) .ret) .skip)) (.seq (Ar [1,4] [Am 23 1,Am 4 23]) .ret)))))))
def pf216 : PF := ⟨[.s 4],[],pb216⟩

def pl217_0 : PC :=
.seq (.seq (Ar [0,1,5,15] [Am 12 5,Am 13 0,Az 14 13,Ab .lss 15 12 14]) (Aj 15 0)) (.seq (.blk 1 (.seq (An1 [0,1,5] 23 1 [Am 18 0,Am 19 5,Ai 25 20 18 19,AL' 25 21 20,Am 22 1,Ac2 216 23 21 22,Am 1 23]) (.seq (Ar [0,1,5,25] [Am 24 1,Ae .lss 25 24 0]) (.cond (.t 25) (.seq (Ar [4] [Ak 4 (-1)]) .ret) .skip)))) (Ar [0,1,5] [Am 16 5,Ae .add 17 16 1,Am 5 17]))
def pb217 : PC :=
.seq (Ar [0,1] [Ak 4 0]) (.seq (Ar [0,1] [Am 6 1,Am 7 0,Az 8 7,Ab .sub 9 6 8,Am 1 9]) (.seq (.seq (Ar [0,1,11] [Am 10 1,Ae .lss 11 10 0]) (.cond (.t 11) (.seq (Ar [4] [Ak 4 (-1)]) .ret) .skip)) (.seq (.seq (Ar [0,1,5] [Ak 5 0]) (.blk 0 (.loop pl217_0))) (.seq (Ar [1,4] [Am 26 1,Am 4 26]) .ret))))
def pf217 : PF := ⟨[.s 4],[],pb217⟩

def pb218 : PC :=
.seq (Ar [1,2] [Ao 2 (.box 2 (.t 0)),Ak 4 0]) (.seq (An1 [1] 8 1 [Af 5 2 1,Al 6 5,Am 7 1,Ac2 223 8 6 7,Am 1 8]) (.seq (.seq (Ar [1,10] [Am 9 1,Ae .lss 10 9 0]) (.cond (.t 10) (.seq (Ar [4] [Ak 4 (-1)]) .ret) .skip)) (.seq (Ar [1,4] [Am 11 1,Am 4 11]) .ret)))
def pf218 : PF := ⟨[.s 4],[],pb218⟩

def pb219 : PC :=
.seq (Ar [0,1] [Ak 4 0]) (.seq (Ar [1] [Am 5 1,Am 6 0,Az 7 6,Ab .sub 8 5 7,Am 1 8]) (.seq (.seq (Ar [1,10] [Am 9 1,Ae .lss 10 9 0]) (.cond (.t 10) (.seq (Ar [4] [Ak 4 (-1)]) .ret) .skip)) (.seq (Ar [4] [Am 11 1,Am 4 11]) .ret)))
def pf219 : PF := ⟨[.s 4],[],pb219⟩

def pb220 : PC :=
.seq (Ar [1,2] [Ao 2 (.box 7 (.t 0)),Ak 4 0]) (.seq (An1 [1,2] 8 1 [Af 5 2 3,AL' 3 6 5,Am 7 1,Ac2 231 8 6 7,Am 1 8]) (.seq (.seq (Ar [1,2,10] [Am 9 1,Ae .lss 10 9 0]) (.cond (.t 10) (.seq (Ar [4] [Ak 4 (-1)]) .ret) .skip)) (.seq (An1 [1] 14 1 [Af 11 2 6,Al 12 11,Am 13 1,Ac2 221 14 12 13,Am 1 14]) (.seq (.seq (Ar [1,16] [Am 15 1,Ae .lss 16 15 0]) (.cond (.t 16) (.seq (Ar [4] [Ak 4 (-1)]) .ret) .skip)) (.seq (Ar [1,4] [Am 17 1,Am 4 17]) .ret)))))
def pf220 : PF := ⟨[.s 4],[],pb220⟩

def pl221_0 : PC :=
.seq (.seq (Ar [0,1,5,15] [Am 12 5,Am 13 0,Az 14 13,Ab .lss 15 12 14]) (Aj 15 0)) (.seq (.blk 1 (.seq (An1 [0,1,5] 23 1 [Am 18 0,Am 19 5,Ai 7 20 18 19,AL' 7 21 20,Am 22 1,Ac2 220 23 21 22,Am 1 23]) (.seq (Ar [0,1,5,25] [Am 24 1,Ae .lss 25 24 0]) (.cond (.t 25) (.seq (Ar [4] [Ak 4 (-1)]) .ret) .skip)))) (Ar [0,1,5] [Am 16 5,Ae .add 17 16 1,Am 5 17]))
def pb221 : PC :=
.seq (Ar [0,1] [Ak 4 0]) (.seq (Ar [0,1] [Am 6 1,Am 7 0,Az 8 7,Ab .sub 9 6 8,Am 1 9]) (.seq (.seq (Ar [0,1,11] [Am 10 1,Ae .lss 11 10 0]) (.cond (.t 11) (.seq (Ar [4] [Ak 4 (-1)]) .ret) .skip)) (.seq (.seq (Ar [0,1,5] [Ak 5 0]) (.blk 0 (.loop pl221_0))) (.seq (Ar [1,4] [Am 26 1,Am 4 26]) .ret))))
def pf221 : PF := ⟨[.s 4],[],pb221⟩

def pb222 : PC :=
.seq (Ar [1,2] [Ao 2 (.box 10 (.t 0)),Ak 4 0]) (.seq (An1 [1,2] 8 1 [Af 5 2 1,AL' 7 6 5,Am 7 1,Ac2 220 8 6 7,Am 1 8]) (.seq (.seq (Ar [1,2,10] [Am 9 1,Ae .lss 10 9 0]) (.cond (.t 10) (.seq (Ar [4] [Ak 4 (-1)]) .ret) .skip)) (.seq (An1 [1] 14 1 [Af 11 2 9,Al 12 11,Am 13 1,Ac2 219 14 12 13,Am 1 14]) (.seq (.seq (Ar [1,16] [Am 15 1,Ae .lss 16 15 0]) (.cond (.t 16) (.seq (Ar [4] [Ak 4 (-1)]) .ret) .skip)) (.seq (Ar [1,4] [Am 17 1,Am 4 17]) .ret)))))
def pf222 : PF := ⟨[.s 4],[],pb222⟩

def pb223 : PC :=
.seq (Ar [0,1] [Ak 4 0]) (.seq (Ar [1] [Am 5 1,Am 6 0,Az 7 6,Ab .sub 8 5 7,Am 1 8]) (.seq (.seq (Ar [1,10] [Am 9 1,Ae .lss 10 9 0]) (.cond (.t 10) (.seq (Ar [4] [Ak 4 (-1)]) .ret) .skip)) (.seq (Ar [4] [Am 11 1,Am 4 11]) .ret)))
def pf223 : PF := ⟨[.s 4],[],pb223⟩

def pb224 : PC :=
.seq (Ar [1,2] [Ao 2 (.box 6 (.t 0)),Ak 4 0]) (.seq (An1 [1,2] 8 1 [Af 5 2 0,Al 6 5,Am 7 1,Ac2 226 8 6 7,Am 1 8]) (.seq (.seq (Ar [1,2,10] [Am 9 1,Ae .lss 10 9 0]) (.cond (.t 10) (.seq (Ar [4] [Ak 4 (-1)]) .ret) .skip)) (.seq (An1 [1] 14 1 [Af 11 2 3,AL' 3 12 11,Am 13 1,Ac2 231 14 12 13,Am 1 14]) (.seq (.seq (Ar [1,16] [Am 15 1,Ae .lss 16 15 0]) (.cond (.t 16) (.seq (Ar [4] [Ak 4 (-1)]) .ret) .skip)) (.seq (Ar [1,4] [Am 17 1,Am 4 17]) .ret)))))
def pf224 : PF := ⟨[.s 4],[],pb224⟩

def pb225 : PC :=
.seq (Ar [1,2] [Ao 2 (.box 2 (.t 0)),Ak 4 0]) (.seq (An1 [1] 8 1 [Af 5 2 1,Al 6 5,Am 7 1,Ac2 232 8 6 7,Am 1 8]) (.seq (.seq (Ar [1,10] [Am 9 1,Ae .lss 10 9 0]) (.cond (.t 10) (.seq (Ar [4] [Ak 4 (-1)]) .ret) .skip)) (.seq (Ar [1,4] [Am 11 1,Am 4 11]) .ret)))
def pf225 : PF := ⟨[.s 4],[],pb225⟩

def pl226_0 : PC :=
.seq (.seq (Ar [0,1,5,15] [Am 12 5,Am 13 0,Az 14 13,Ab .lss 15 12 14]) (Aj 15 0)) (.seq (.blk 1 (.seq (An1 [0,1,5] 23 1 [Am 18 0,Am 19 5,Ai 2 20 18 19,AL' 2 21 20,Am 22 1,Ac2 225 23 21 22,Am 1 23]) (.seq (Ar [0,1,5,25] [Am 24 1,Ae .lss 25 24 0]) (.cond (.t 25) (.seq (Ar [4] [Ak 4 (-1)]) .ret) .skip)))) (Ar [0,1,5] [Am 16 5,Ae .add 17 16 1,Am 5 17]))
def pb226 : PC :=
.seq (Ar [0,1] [Ak 4 0]) (.seq (Ar [0,1] [Am 6 1,Am 7 0,Az 8 7,Ab .sub 9 6 8,Am 1 9]) (.seq (.seq (Ar [0,1,11] [Am 10 1,Ae .lss 11 10 0]) (.cond (.t 11) (.seq (Ar [4] [Ak 4 (-1)]) .ret) .skip)) (.seq (.seq (Ar [0,1,5] [Ak 5 0]) (.blk 0 (.loop pl226_0))) (.seq (Ar [1,4] [Am 26 1,Am 4 26]) .ret))))
def pf226 : PF := ⟨[.s 4],[],pb226⟩

def pb227 : PC :=
.seq (Ar [1,2] [Ao 2 (.box 2 (.t 0)),Ak 4 0]) (.seq (An1 [1] 8 1 [Af 5 2 1,Al 6 5,Am 7 1,Ac2 232 8 6 7,Am 1 8]) (.seq (.seq (Ar [1,10] [Am 9 1,Ae .lss 10 9 0]) (.cond (.t 10) (.seq (Ar [4] [Ak 4 (-1)]) .ret) .skip)) (.seq (Ar [1,4] [Am 11 1,Am 4 11]) .ret)))
def pf227 : PF := ⟨[.s 4],[],pb227⟩

def pl228_0 : PC :=
.seq (.seq (Ar [0,1,5,15] [Am 12 5,Am 13 0,Az 14 13,Ab .lss 15 12 14]) (Aj 15 0)) (.seq (.blk 1 (.seq (An1 [0,1,5] 23 1 [Am 18 0,Am 19 5,Ai 2 20 18 19,AL' 2 21 20,Am 22 1,Ac2 227 23 21 22,Am 1 23]) (.seq (Ar [0,1,5,25] [Am 24 1,Ae .lss 25 24 0]) (.cond (.t 25) (.seq (Ar [4] [Ak 4 (-1)]) .ret) .skip)))) (Ar [0,1,5] [Am 16 5,Ae .add 17 16 1,Am 5 17]))
def pb228 : PC :=
.seq (Ar [0,1] [Ak 4 0]) (.seq (Ar [0,1] [Am 6 1,Am 7 0,Az 8 7,Ab .sub 9 6 8,Am 1 9]) (.seq (.seq (Ar [0,1,11] [Am 10 1,Ae .lss 11 10 0]) (.cond (.t 11) (.seq (Ar [4] [Ak 4 (-1)]) .ret) .skip)) (.seq (.seq (Ar [0,1,5] [Ak 5 0]) (.blk 0 (.loop pl228_0))) (.seq (Ar [1,4] [Am 26 1,Am 4 26]) .ret))))
def pf228 : PF := ⟨[.s 4],[],pb228⟩

def pb229 : PC :=
.seq (Ar [1,2] [Ao 2 (.box 25 (.t 0)),Ak 4 0]) (.seq (An1 [1,2] 8 1 [Af 5 2 3,Al 6 5,Am 7 1,Ac2 232 8 6 7,Am 1 8]) (.seq (.seq (Ar [1,2,10] [Am 9 1,Ae .lss 10 9 0]) (.cond (.t 10) (.seq (Ar [4] [Ak 4 (-1)]) .ret) .skip)) (.seq (An1 [1,2] 14 1 [Af 11 2 5,AL' 10 12 11,Am 13 1,Ac2 222 14 12 13,Am 1 14]) (.seq (.seq (Ar [1,2,16] [Am 15 1,Ae .lss 16 15 0]) (.cond (.t 16) (.seq (Ar [4] [Ak 4 (-1)]) .ret) .skip)) (.seq (An1 [1,2] 20 1 [Af 17 2 17,Al 18 17,Am 19 1,Ac2 223 20 18 19,Am 1 20]) (.seq (.seq (Ar [1,2,22] [Am 21 1,Ae .lss 22 21 0]) (.cond (.t 22) (.seq (Ar [4] [Ak 4 (-1)]) .ret) .skip)) (.seq (An1 [1] 26 1 [Af 23 2 24,Al 24 23,Am 25 1,Ac2 226 26 24 25,Am 1 26]) (.seq (.seq (Ar [1,28] [Am 27 1,Ae .lss 28 27 0]) (.cond (.t 28) (.seq (Ar [4] [Ak 4 (-1)]) .ret) .skip)) (.seq (Ar [1,4] [Am 29 1,Am 4 29]) .ret)))))))))
def pf229 : PF := ⟨[.s 4],[],pb229⟩

def pl230_0 : PC :=
.seq (.seq (Ar [0,1,5,15] [Am 12 5,Am 13 0,Az 14 13,Ab .lss 15 12 14]) (Aj 15 0)) (.seq (.blk 1 (.seq (An1 [0,1,5] 23 1 [Am 18 0,Am 19 5,Ai 25 20 18 19,AL' 25 21 20,Am 22 1,Ac2 229 23 21 22,Am 1 23]) (.seq (Ar [0,1,5,25] [Am 24 1,Ae .lss 25 24 0]) (.cond (.t 25) (.seq (Ar [4] [Ak 4 (-1)]) .ret) .skip)))) (Ar [0,1,5] [Am 16 5,Ae .add 17 16 1,Am 5 17]))
def pb230 : PC :=
.seq (Ar [0,1] [Ak 4 0]) (.seq (Ar [0,1] [Am 6 1,Am 7 0,Az 8 7,Ab .sub 9 6 8,Am 1 9]) (.seq (.seq (Ar [0,1,11] [Am 10 1,Ae .lss 11 10 0]) (.cond (.t 11) (.seq (Ar [4] [Ak 4 (-1)]) .ret) .skip)) (.seq (.seq (Ar [0,1,5] [Ak 5 0]) (.blk 0 (.loop pl230_0))) (.seq (Ar [1,4] [Am 26 1,Am 4 26]) .ret))))
def pf230 : PF := ⟨[.s 4],[],pb230⟩

def pb231 : PC :=
.seq (Ar [1,2] [Ao 2 (.box 3 (.t 0)),Ak 4 0]) (.seq (Ar [1] [Am 5 1,Af 6 2 2,Al 7 6,Ao 8 (.lens (.t 7)),Ab .sub 9 5 8,Am 1 9]) (.seq (.seq (Ar [1,11] [Am 10 1,Ae .lss 11 10 0]) (.cond (.t 11) (.seq (Ar [4] [Ak 4 (-1)]) .ret) .skip)) (.seq (Ar [4] [Am 12 1,Am 4 12]) .ret)))
def pf231 : PF := ⟨[.s 4],[],pb231⟩

def pl232_0 : PC :=
.seq (.seq (Ar [0,1,5,15] [Am 12 5,Am 13 0,Az 14 13,Ab .lss 15 12 14]) (Aj 15 0)) (.seq (.blk 1 (.seq (An1 [0,1,5] 23 1 [Am 18 0,Am 19 5,Ai 3 20 18 19,AL' 3 21 20,Am 22 1,Ac2 231 23 21 22,Am 1 23]) (.seq (Ar [0,1,5,25] [Am 24 1,Ae .lss 25 24 0]) (.cond (.t 25) (.seq (Ar [4] [Ak 4 (-1)]) .ret) .skip)))) (Ar [0,1,5] [Am 16 5,Ae .add 17 16 1,Am 5 17]))
def pb232 : PC :=
.seq (Ar [0,1] [Ak 4 0]) (.seq (Ar [0,1] [Am 6 1,Am 7 0,Az 8 7,Ab .sub 9 6 8,Am 1 9]) (.seq (.seq (Ar [0,1,11] [Am 10 1,Ae .lss 11 10 0]) (.cond (.t 11) (.seq (Ar [4] [Ak 4 (-1)]) .ret) .skip)) (.seq (.seq (Ar [0,1,5] [Ak 5 0]) (.blk 0 (.loop pl232_0))) (.seq (Ar [1,4] [Am 26 1,Am 4 26]) .ret))))
def pf232 : PF := ⟨[.s 4],[],pb232⟩

def pb233 : PC :=
.seq (Ar [1,2] [Ao 2 (.box 14 (.t 0)),Ak 4 0]) (.seq (An1 [1,2] 8 1 [Af 5 2 0,AL' 3 6 5,Am 7 1,Ac2 214 8 6 7,Am 1 8]) (.seq (.seq (Ar [1,2,10] [Am 9 1,Ae .lss 10 9 0]) (.cond (.t 10) (.seq (Ar [4] [Ak 4 (-1)]) .ret) .skip)) (.seq (An1 [1,2] 14 1 [Af 11 2 6,AL' 2 12 11,Am 13 1,Ac2 218 14 12 13,Am 1 14]) (.seq (.seq (Ar [1,2,16] [Am 15 1,Ae .lss 16 15 0]) (.cond (.t 16) (.seq (Ar [4] [Ak 4 (-1)]) .ret) .skip)) (.seq (An1 [1,2] 20 1 [Af 17 2 8,Al 18 17,Am 19 1,Ac2 211 20 18 19,Am 1 20]) (.seq (.seq (Ar [1,2,22] [Am 21 1,Ae .lss 22 21 0]) (.cond (.t 22) (.seq (Ar [4] [Ak 4 (-1)]) .ret) .skip)) (.seq (An1 [1,2] 26 1 [Af 23 2 9,Al 24 23,Am 25 1,Ac2 219 26 24 25,Am 1 26]) (.seq (.seq (Ar [1,2,28] [Am 27 1,Ae .lss 28 27 0]) (.cond (.t 28) (.seq (Ar [4] [Ak 4 (-1)]) .ret) .skip)) (.seq (An1 [1,2] 32 1 [Af 29 2 10,Al 30 29,Am 31 1,Ac2 215 32 30 31,Am 1 32]) (.seq (.seq (Ar [1,2,34] [Am 33 1,Ae .lss 34 33 0]) (.cond (.t 34) (.seq (Ar [4] [Ak 4 (-1)]) .ret) .skip)) (.seq (An1 [1,2] 38 1 [Af 35 2 11,Al 36 35,Am 37 1,Ac2 219 38 36 37,Am 1 38]) (.seq (.seq (Ar [1,2,40] [Am 39 1,Ae .lss 40 39 0]) (.cond (.t 40) (.seq (Ar [4] [Ak 4 (-1)]) .ret) .skip)) (.seq (An1 [1,2] 44 1 [Af 41 2 12,Al 42 41,Am 43 1,Ac2 230 44 42 43,Am 1 44]) (.seq (.seq (Ar [1,2,46] [Am 45 1,Ae .lss 46 45 0]) (.cond (.t 46) (.seq (Ar [4] [Ak 4 (-1)]) .ret) .skip)) (.seq (An1 [1] 50 1 [Af 47 2 13,Al 48 47,Am 49 1,Ac2 217 50 48 49,Am 1 50]) (.seq (.seq (Ar [1,52] [Am 51 1,Ae .lss 52 51 0]) (.cond (.t 52) (.seq (Ar [4] [Ak 4 (-1)]) .ret) .skip)) (.seq (Ar [1,4] [Am 53 1,Am 4 53]) .ret)))))))))))))))))
def pf233 : PF := ⟨[.s 4],[],pb233⟩

def pb234 : PC :=
.seq (Ar [1,2] [Ao 1 (.box 5 (.t 0)),Ao 2 (.alloc [A0,A0,A0,(.nl 2),(.nl 1)])]) (.seq (Ar [1,2,3] [Ao 3 (.alloc [A0,A0,A0,(.nl 2),(.nl 1)])]) (.seq (Ar [1,2,3] [Af 4 1 0,Al 5 4,Af 6 3 0,As 1 6 5]) (.seq (Ar [1,2,3] [Af 7 1 1,Al 8 7,Af 9 3 1,As 1 9 8]) (.seq (Ar [1,2,3] [Af 10 1 2,AL' 2 11 10,Ac1 237 12 11,Af 13 3 2,As 2 13 12]) (.seq (Ar [2,3] [Af 14 1 4,Al 15 14,Ac1 236 16 15,Af 17 3 4,As 1 17 16]) (.seq (Ar [2] [AL' 5 18 3,As 5 2 18]) .ret))))))
def pf234 : PF := ⟨[.b 2 5 true],[],pb234⟩

def pl235_0 : PC :=
.seq (.seq (Ar [0,3,4,11] [Am 8 4,Am 9 0,Az 10 9,Ab .lss 11 8 10]) (Aj 11 0)) (.seq (.blk 1 (Ar [0,3,4] [Am 14 3,Am 15 4,Am 16 0,Am 17 4,Ai 5 18 16 17,AL' 5 19 18,Ac1 234 20 19,Ai 5 21 14 15,As 5 21 20])) (Ar [0,3,4] [Am 12 4,Ae .add 13 12 1,Am 4 13]))
def pb235 : PC :=
.seq (Ar [0] [Ao 2 (.mv (.c (.nl 5)))]) (.seq (An1 [0,3] 7 3 [Am 5 0,Az 6 5,Ao 7 (.mks 5 72 [A2,A2,A2,.sl 2 [],.sl 1 []] (.t 6)),Am 3 7]) (.seq (.seq (Ar [0,3,4] [Ak 4 0]) (.blk 0 (.loop pl235_0))) (.seq (Ar [2,3] [Am 22 3,Am 2 22]) .ret)))
def pf235 : PF := ⟨[.s 2],[],pb235⟩

def pl236_0 : PC :=
.seq (.seq (Ar [0,3,4,11] [Am 8 4,Am 9 0,Az 10 9,Ab .lss 11 8 10]) (Aj 11 0)) (.seq (.blk 1 (Ar [0,3,4] [Am 14 3,Am 15 4,Am 16 0,Am 17 4,Ai 1 18 16 17,Al 19 18,Ai 1 20 14 15,As 1 20 19])) (Ar [0,3,4] [Am 12 4,Ae .add 13 12 1,Am 4 13]))
def pb236 : PC :=
.seq (Ar [0] [Ao 2 (.mv (.c (.nl 1)))]) (.seq (An1 [0,3] 7 3 [Am 5 0,Az 6 5,Ao 7 (.mks 1 1 [.int .u8 0] (.t 6)),Am 3 7]) (.seq (.seq (Ar [0,3,4] [Ak 4 0]) (.blk 0 (.loop pl236_0))) (.seq (Ar [2,3] [Am 21 3,Am 2 21]) .ret)))
def pf236 : PF := ⟨[.s 2],[],pb236⟩

def pb237 : PC :=
.seq (Ar [1,2] [Ao 1 (.box 2 (.t 0)),Ao 2 (.alloc [A0,(.nl 2)])]) (.seq (Ar [1,2,3] [Ao 3 (.alloc [A0,(.nl 2)])]) (.seq (Ar [1,2,3] [Af 4 1 0,Al 5 4,Af 6 3 0,As 1 6 5]) (.seq (Ar [2,3] [Af 7 1 1,Al 8 7,Ac1 254 9 8,Af 10 3 1,As 1 10 9]) (.seq (Ar [2] [AL' 2 11 3,As 2 2 11]) .ret))))
def pf237 : PF := ⟨[.b 2 2 true],[],pb237⟩

def pb238 : PC :=
.seq (Ar [1,2] [Ao 1 (.box 3 (.t 0)),Ao 2 (.alloc [(.nl 1),A0,A0])]) (.seq (Ar [1,2,3] [Ao 3 (.alloc [(.nl 1),A0,A0])]) (.seq (Ar [1,2,3] [Af 4 1 0,Al 5 4,Ac1 244 6 5,Af 7 3 0,As 1 7 6]) (.seq (Ar [1,2,3] [Af 8 1 1,Al 9 8,Af 10 3 1,As 1 10 9]) (.seq (Ar [2,3] [Af 11 1 2,Al 12 11,Af 13 3 2,As 1 13 12]) (.seq (Ar [2] [AL' 3 14 3,As 3 2 14]) .ret)))))
def pf238 : PF := ⟨[.b 2 3 true],[],pb238⟩

def pb239 : PC :=
.seq (Ar [1,2] [Ao 1 (.box 3 (.t 0)),Ao 2 (.alloc [A0,A0,A0])]) (.seq (Ar [1,2,3] [Ao 3 (.alloc [A0,A0,A0])]) (.seq (Ar [1,2,3] [Af 4 1 0,Al 5 4,Af 6 3 0,As 1 6 5]) (.seq (Ar [1,2,3] [Af 7 1 1,Al 8 7,Af 9 3 1,As 1 9 8]) (.seq (Ar [2,3] [Af 10 1 2,Al 11 10,Af 12 3 2,As 1 12 11]) (.seq (Ar [2] [AL' 3 13 3,As 3 2 13]) .ret)))))
def pf239 : PF := ⟨[.b 2 3 true],[],pb239⟩

def pl240_0 : PC :=
.seq (.seq (Ar [0,3,4,11] [Am 8 4,Am 9 0,Az 10 9,Ab .lss 11 8 10]) (Aj 11 0)) (.seq (.blk 1 (Ar [0,3,4] [Am 14 3,Am 15 4,Am 16 0,Am 17 4,Ai 3 18 16 17,AL' 3 19 18,Ac1 239 20 19,Ai 3 21 14 15,As 3 21 20])) (Ar [0,3,4] [Am 12 4,Ae .add 13 12 1,Am 4 13]))
def pb240 : PC :=
.seq (Ar [0] [Ao 2 (.mv (.c (.nl 3)))]) (.seq (An1 [0,3] 7 3 [Am 5 0,Az 6 5,Ao 7 (.mks 3 24 [A2,A2,A2] (.t 6)),Am 3 7]) (.seq (.seq (Ar [0,3,4] [Ak 4 0]) (.blk 0 (.loop pl240_0))) (.seq (Ar [2,3] [Am 22 3,Am 2 22]) .ret)))
def pf240 : PF := ⟨[.s 2],[],pb240⟩

def pb241 : PC :=
.seq (Ar [1,2] [Ao 1 (.box 25 (.t 0)),⟨some 2,.alloc [A0,A0,(.nl 3),A0,A0,A0,A0,A0,A0,A0,A1,(.nl 7),A0,(.nl 1),(.nl 2),A0,(.v false (.bool false)),A0,A0,A1,A0,A0,A0,A0,A0],none⟩]) (.seq (Ar [1,2,3] [⟨some 3,.alloc [A0,A0,(.nl 3),A0,A0,A0,A0,A0,A0,A0,A1,(.nl 7),A0,(.nl 1),(.nl 2),A0,(.v false (.bool false)),A0,A0,A1,A0,A0,A0,A0,A0],none⟩]) (.seq (Ar [1,2,3] [Af 4 1 0,Al 5 4,Af 6 3 0,As 1 6 5]) (.seq (Ar [1,2,3] [Af 7 1 1,Al 8 7,Af 9 3 1,As 1 9 8]) (.seq (Ar [1,2,3] [Af 10 1 2,Al 11 10,Ac1 258 12 11,Af 13 3 2,As 1 13 12]) (.seq (Ar [1,2,3] [Af 14 1 3,Al 15 14,Af 16 3 3,As 1 16 15]) (.seq (Ar [1,2,3] [Af 17 1 4,AL' 10 18 17,Ac1 247 19 18,Af 20 3 4,As 10 20 19]) (.seq (Ar [1,2,3] [Af 21 1 14,AL' 6 22 21,Ac1 250 23 22,Af 24 3 14,As 6 24 23]) (.seq (Ar [1,2,3] [Af 25 1 20,Al 26 25,Af 27 3 20,As 1 27 26]) (.seq (Ar [1,2,3] [Af 28 1 21,Al 29 28,Af 30 3 21,As 1 30 29]) (.seq (Ar [1,2,3] [Af 31 1 22,Al 32 31,Af 33 3 22,As 1 33 32]) (.seq (Ar [1,2,3] [Af 34 1 23,Al 35 34,Af 36 3 23,As 1 36 35]) (.seq (Ar [2,3] [Af 37 1 24,Al 38 37,Af 39 3 24,As 1 39 38]) (.seq (Ar [2] [AL' 25 40 3,As 25 2 40]) .ret)))))))))))))
def pf241 : PF := ⟨[.b 2 25 true],[],pb241⟩

def pl242_0 : PC :=
.seq (.seq (Ar [0,3,4,11] [Am 8 4,Am 9 0,Az 10 9,Ab .lss 11 8 10]) (Aj 11 0)) (.seq (.blk 1 (Ar [0,3,4] [Am 14 3,Am 15 4,Am 16 0,Am 17 4,Ai 25 18 16 17,AL' 25 19 18,Ac1 241 20 19,Ai 25 21 14 15,As 25 21 20])) (Ar [0,3,4] [Am 12 4,Ae .add 13 12 1,Am 4 13]))
def pb242 : PC :=
.seq (Ar [0] [Ao 2 (.mv (.c (.nl 25)))]) (.seq (An1 [0,3] 7 3 [Am 5 0,Az 6 5,⟨some 7,.mks 25 280 [A2,A2,.sl 3 [],A2,A2,A2,A2,A2,A2,A2,A3,.sl 7 [],A2,.sl 1 [],.sl 2 [],A2,.bool false,A2,A2,A3,A2,A2,A2,A2,A2] (.t 6),none⟩,Am 3 7]) (.seq (.seq (Ar [0,3,4] [Ak 4 0]) (.blk 0 (.loop pl242_0))) (.seq (Ar [2,3] [Am 22 3,Am 2 22]) .ret)))
def pf242 : PF := ⟨[.s 2],[],pb242⟩

def pb243 : PC :=
.seq (Ar [1,2] [Ao 1 (.box 2 (.t 0)),Ao 2 (.alloc [A0,(.nl 5)])]) (.seq (Ar [1,2,3] [Ao 3 (.alloc [A0,(.nl 5)])]) (.seq (Ar [1,2,3] [Af 4 1 0,Al 5 4,Af 6 3 0,As 1 6 5]) (.seq (Ar [2,3] [Af 7 1 1,Al 8 7,Ac1 249 9 8,Af 10 3 1,As 1 10 9]) (.seq (Ar [2] [AL' 2 11 3,As 2 2 11]) .ret))))
def pf243 : PF := ⟨[.b 2 2 true],[],pb243⟩

def pl244_0 : PC :=
.seq (.seq (Ar [0,3,4,11] [Am 8 4,Am 9 0,Az 10 9,Ab .lss 11 8 10]) (Aj 11 0)) (.seq (.blk 1 (Ar [0,3,4] [Am 14 3,Am 15 4,Am 16 0,Am 17 4,Ai 1 18 16 17,Al 19 18,Ai 1 20 14 15,As 1 20 19])) (Ar [0,3,4] [Am 12 4,Ae .add 13 12 1,Am 4 13]))
def pb244 : PC :=
.seq (Ar [0] [Ao 2 (.mv (.c (.nl 1)))]) (.seq (An1 [0,3] 7 3 [Am 5 0,Az 6 5,Ao 7 (.mks 1 8 [A2] (.t 6)),Am 3 7]) (.seq (.seq (Ar [0,3,4] [Ak 4 0]) (.blk 0 (.loop pl244_0))) (.seq (Ar [2,3] [Am 21 3,Am 2 21]) .ret)))
def pf244 : PF := ⟨[.s 2],[],pb244⟩

def pb245 : PC :=
.seq (Ar [1,2] [Ao 1 (.box 7 (.t 0)),⟨some 2,.alloc [A0,A0,A0,A0,A0,A1,(.nl 7)],none⟩]) (.seq (Ar [1,2,3] [⟨some 3,.alloc [A0,A0,A0,A0,A0,A1,(.nl 7)],none⟩]) (.seq (Ar [1,2,3] [Af 4 1 0,Al 5 4,Af 6 3 0,As 1 6 5]) (.seq (Ar [1,2,3] [Af 7 1 1,Al 8 7,Af 9 3 1,As 1 9 8]) (.seq (Ar [1,2,3] [Af 10 1 2,Al 11 10,Af 12 3 2,As 1 12 11]) (.seq (Ar [1,2,3] [Af 13 1 3,AL' 3 14 13,Ac1 257 15 14,Af 16 3 3,As 3 16 15]) (.seq (Ar [2,3] [Af 17 1 6,Al 18 17,Ac1 246 19 18,Af 20 3 6,As 1 20 19]) (.seq (Ar [2] [AL' 7 21 3,As 7 2 21]) .ret)))))))
def pf245 : PF := ⟨[.b 2 7 true],[],pb245⟩

def pl246_0 : PC :=
.seq (.seq (Ar [0,3,4,11] [Am 8 4,Am 9 0,Az 10 9,Ab .lss 11 8 10]) (Aj 11 0)) (.seq (.blk 1 (Ar [0,3,4] [Am 14 3,Am 15 4,Am 16 0,Am 17 4,Ai 7 18 16 17,AL' 7 19 18,Ac1 245 20 19,Ai 7 21 14 15,As 7 21 20])) (Ar [0,3,4] [Am 12 4,Ae .add 13 12 1,Am 4 13]))
def pb246 : PC :=
.seq (Ar [0] [Ao 2 (.mv (.c (.nl 7)))]) (.seq (An1 [0,3] 7 3 [Am 5 0,Az 6 5,⟨some 7,.mks 7 80 [A2,A2,A2,A2,A2,A3,.sl 7 []] (.t 6),none⟩,Am 3 7]) (.seq (.seq (Ar [0,3,4] [Ak 4 0]) (.blk 0 (.loop pl246_0))) (.seq (Ar [2,3] [Am 22 3,Am 2 22]) .ret)))
def pf246 : PF := ⟨[.s 2],[],pb246⟩

def pb247 : PC :=
.seq (Ar [1,2] [Ao 1 (.box 10 (.t 0)),⟨some 2,.alloc [A0,A0,A0,A0,A0,A0,A1,(.nl 7),A0,(.nl 1)],none⟩]) (.seq (Ar [1,2,3] [⟨some 3,.alloc [A0,A0,A0,A0,A0,A0,A1,(.nl 7),A0,(.nl 1)],none⟩]) (.seq (Ar [1,2,3] [Af 4 1 0,Al 5 4,Af 6 3 0,As 1 6 5]) (.seq (Ar [1,2,3] [Af 7 1 1,AL' 7 8 7,Ac1 245 9 8,Af 10 3 1,As 7 10 9]) (.seq (Ar [1,2,3] [Af 11 1 8,Al 12 11,Af 13 3 8,As 1 13 12]) (.seq (Ar [2,3] [Af 14 1 9,Al 15 14,Ac1 244 16 15,Af 17 3 9,As 1 17 16]) (.seq (Ar [2] [AL' 10 18 3,As 10 2 18]) .ret))))))
def pf247 : PF := ⟨[.b 2 10 true],[],pb247⟩

def pb248 : PC :=
.seq (Ar [1,2] [Ao 1 (.box 5 (.t 0)),Ao 2 (.alloc [A0,A0,A0,A0,A0])]) (.seq (Ar [1,2,3] [Ao 3 (.alloc [A0,A0,A0,A0,A0])]) (.seq (Ar [1,2,3] [Af 4 1 0,Al 5 4,Af 6 3 0,As 1 6 5]) (.seq (Ar [1,2,3] [Af 7 1 1,Al 8 7,Af 9 3 1,As 1 9 8]) (.seq (Ar [1,2,3] [Af 10 1 2,Al 11 10,Af 12 3 2,As 1 12 11]) (.seq (Ar [1,2,3] [Af 13 1 3,Al 14 13,Af 15 3 3,As 1 15 14]) (.seq (Ar [2,3] [Af 16 1 4,Al 17 16,Af 18 3 4,As 1 18 17]) (.seq (Ar [2] [AL' 5 19 3,As 5 2 19]) .ret)))))))
def pf248 : PF := ⟨[.b 2 5 true],[],pb248⟩

def pl249_0 : PC :=
.seq (.seq (Ar [0,3,4,11] [Am 8 4,Am 9 0,Az 10 9,Ab .lss 11 8 10]) (Aj 11 0)) (.seq (.blk 1 (Ar [0,3,4] [Am 14 3,Am 15 4,Am 16 0,Am 17 4,Ai 5 18 16 17,AL' 5 19 18,Ac1 248 20 19,Ai 5 21 14 15,As 5 21 20])) (Ar [0,3,4] [Am 12 4,Ae .add 13 12 1,Am 4 13]))
def pb249 : PC :=
.seq (Ar [0] [Ao 2 (.mv (.c (.nl 5)))]) (.seq (An1 [0,3] 7 3 [Am 5 0,Az 6 5,Ao 7 (.mks 5 40 [A2,A2,A2,A2,A2] (.t 6)),Am 3 7]) (.seq (.seq (Ar [0,3,4] [Ak 4 0]) (.blk 0 (.loop pl249_0))) (.seq (Ar [2,3] [Am 22 3,Am 2 22]) .ret)))
def pf249 : PF := ⟨[.s 2],[],pb249⟩

def pb250 : PC :=
.seq (Ar [1,2] [Ao 1 (.box 6 (.t 0)),⟨some 2,.alloc [(.nl 2),A0,(.v false (.bool false)),A0,A0,A1],none⟩]) (.seq (Ar [1,2,3] [⟨some 3,.alloc [(.nl 2),A0,(.v false (.bool false)),A0,A0,A1],none⟩]) (.seq (Ar [1,2,3] [Af 4 1 0,Al 5 4,Ac1 252 6 5,Af 7 3 0,As 1 7 6]) (.seq (Ar [1,2,3] [Af 8 1 1,Al 9 8,Af 10 3 1,As 1 10 9]) (.seq (Ar [1,2,3] [Af 11 1 2,Al 12 11,Af 13 3 2,As 1 13 12]) (.seq (Ar [2,3] [Af 14 1 3,AL' 3 15 14,Ac1 257 16 15,Af 17 3 3,As 3 17 16]) (.seq (Ar [2] [AL' 6 18 3,As 6 2 18]) .ret))))))
def pf250 : PF := ⟨[.b 2 6 true],[],pb250⟩

def pb251 : PC :=
.seq (Ar [1,2] [Ao 1 (.box 2 (.t 0)),Ao 2 (.alloc [A0,(.nl 3)])]) (.seq (Ar [1,2,3] [Ao 3 (.alloc [A0,(.nl 3)])]) (.seq (Ar [1,2,3] [Af 4 1 0,Al 5 4,Af 6 3 0,As 1 6 5]) (.seq (Ar [2,3] [Af 7 1 1,Al 8 7,Ac1 258 9 8,Af 10 3 1,As 1 10 9]) (.seq (Ar [2] [AL' 2 11 3,As 2 2 11]) .ret))))
def pf251 : PF := ⟨[.b 2 2 true],[],pb251⟩

def pl252_0 : PC :=
.seq (.seq (Ar [0,3,4,11] [Am 8 4,Am 9 0,Az 10 9,Ab .lss 11 8 10]) (Aj 11 0)) (.seq (.blk 1 (Ar [0,3,4] [Am 14 3,Am 15 4,Am 16 0,Am 17 4,Ai 2 18 16 17,AL' 2 19 18,Ac1 251 20 19,Ai 2 21 14 15,As 2 21 20])) (Ar [0,3,4] [Am 12 4,Ae .add 13 12 1,Am 4 13]))
def pb252 : PC :=
.seq (Ar [0] [Ao 2 (.mv (.c (.nl 2)))]) (.seq (An1 [0,3] 7 3 [Am 5 0,Az 6 5,Ao 7 (.mks 2 32 [A2,.sl 3 []] (.t 6)),Am 3 7]) (.seq (.seq (Ar [0,3,4] [Ak 4 0]) (.blk 0 (.loop pl252_0))) (.seq (Ar [2,3] [Am 22 3,Am 2 22]) .ret)))
def pf252 : PF := ⟨[.s 2],[],pb252⟩

def pb253 : PC :=
.seq (Ar [1,2] [Ao 1 (.box 2 (.t 0)),Ao 2 (.alloc [A0,(.nl 3)])]) (.seq (Ar [1,2,3] [Ao 3 (.alloc [A0,(.nl 3)])]) (.seq (Ar [1,2,3] [Af 4 1 0,Al 5 4,Af 6 3 0,As 1 6 5]) (.seq (Ar [2,3] [Af 7 1 1,Al 8 7,Ac1 258 9 8,Af 10 3 1,As 1 10 9]) (.seq (Ar [2] [AL' 2 11 3,As 2 2 11]) .ret))))
def pf253 : PF := ⟨[.b 2 2 true],[],pb253⟩

def pl254_0 : PC :=
.seq (.seq (Ar [0,3,4,11] [Am 8 4,Am 9 0,Az 10 9,Ab .lss 11 8 10]) (Aj 11 0)) (.seq (.blk 1 (Ar [0,3,4] [Am 14 3,Am 15 4,Am 16 0,Am 17 4,Ai 2 18 16 17,AL' 2 19 18,Ac1 253 20 19,Ai 2 21 14 15,As 2 21 20])) (Ar [0,3,4] [Am 12 4,Ae .add 13 12 1,Am 4 13]))
def pb254 : PC :=
.seq (Ar [0] [Ao 2 (.mv (.c (.nl 2)))]) (.seq (An1 [0,3] 7 3 [Am 5 0,Az 6 5,Ao 7 (.mks 2 32 [A2,.sl 3 []] (.t 6)),Am 3 7]) (.seq (.seq (Ar [0,3,4] [Ak 4 0]) (.blk 0 (.loop pl254_0))) (.seq (Ar [2,3] [Am 22 3,Am 2 22]) .ret)))
def pf254 : PF := ⟨[.s 2],[],pb254⟩

def pb255 : PC :=
.seq (Ar [1,2] [Ao 1 (.box 25 (.t 0)),⟨some 2,.alloc [A0,A0,A0,(.nl 3),A0,A0,A0,A0,A0,A0,A0,A1,(.nl 7),A0,(.nl 1),A0,A0,(.nl 5),A0,A0,A0,A0,A0,(.v false (.bool false)),(.nl 2)],none⟩]) (.seq (Ar [1,2,3] [⟨some 3,.alloc [A0,A0,A0,(.nl 3),A0,A0,A0,A0,A0,A0,A0,A1,(.nl 7),A0,(.nl 1),A0,A0,(.nl 5),A0,A0,A0,A0,A0,(.v false (.bool false)),(.nl 2)],none⟩]) (.seq (Ar [1,2,3] [Af 4 1 0,Al 5 4,Af 6 3 0,As 1 6 5]) (.seq (Ar [1,2,3] [Af 7 1 1,Al 8 7,Af 9 3 1,As 1 9 8]) (.seq (Ar [1,2,3] [Af 10 1 2,Al 11 10,Af 12 3 2,As 1 12 11]) (.seq (Ar [1,2,3] [Af 13 1 3,Al 14 13,Ac1 258 15 14,Af 16 3 3,As 1 16 15]) (.seq (Ar [1,2,3] [Af 17 1 4,Al 18 17,Af 19 3 4,As 1 19 18]) (.seq (Ar [1,2,3] [Af 20 1 5,AL' 10 21 20,Ac1 247 22 21,Af 23 3 5,As 10 23 22]) (.seq (Ar [1,2,3] [Af 24 1 15,Al 25 24,Af 26 3 15,As 1 26 25]) (.seq (Ar [1,2,3] [Af 27 1 16,Al 28 27,Af 29 3 16,As 1 29 28]) (.seq (Ar [1,2,3] [Af 30 1 17,Al 31 30,Ac1 249 32 31,Af 33 3 17,As 1 33 32]) (.seq (Ar [1,2,3] [Af 34 1 18,Al 35 34,Af 36 3 18,As 1 36 35]) (.seq (Ar [1,2,3] [Af 37 1 19,Al 38 37,Af 39 3 19,As 1 39 38]) (.seq (Ar [1,2,3] [Af 40 1 20,Al 41 40,Af 42 3 20,As 1 42 41]) (.seq (Ar [1,2,3] [Af 43 1 21,Al 44 43,Af 45 3 21,As 1 45 44]) (.seq (Ar [1,2,3] [Af 46 1 22,Al 47 46,Af 48 3 22,As 1 48 47]) (.seq (Ar [1,2,3] [Af 49 1 23,Al 50 49,Af 51 3 23,As 1 51 50]) (.seq (Ar [2,3] [Af 52 1 24,Al 53 52,Ac1 252 54 53,Af 55 3 24,As 1 55 54]) (.seq (Ar [2] [AL' 25 56 3,As 25 2 56]) .ret))))))))))))))))))
def pf255 : PF := ⟨[.b 2 25 true],[],pb255⟩

def pl256_0 : PC :=
.seq (.seq (Ar [0,3,4,11] [Am 8 4,Am 9 0,Az 10 9,Ab .lss 11 8 10]) (Aj 11 0)) (.seq (.blk 1 (Ar [0,3,4] [Am 14 3,Am 15 4,Am 16 0,Am 17 4,Ai 25 18 16 17,AL' 25 19 18,Ac1 255 20 19,Ai 25 21 14 15,As 25 21 20])) (Ar [0,3,4] [Am 12 4,Ae .add 13 12 1,Am 4 13]))
def pb256 : PC :=
.seq (Ar [0] [Ao 2 (.mv (.c (.nl 25)))]) (.seq (An1 [0,3] 7 3 [Am 5 0,Az 6 5,⟨some 7,.mks 25 288 [A2,A2,A2,.sl 3 [],A2,A2,A2,A2,A2,A2,A2,A3,.sl 7 [],A2,.sl 1 [],A2,A2,.sl 5 [],A2,A2,A2,A2,A2,.bool false,.sl 2 []] (.t 6),none⟩,Am 3 7]) (.seq (.seq (Ar [0,3,4] [Ak 4 0]) (.blk 0 (.loop pl256_0))) (.seq (Ar [2,3] [Am 22 3,Am 2 22]) .ret)))
def pf256 : PF := ⟨[.s 2],[],pb256⟩

def pb257 : PC :=
.seq (Ar [1,2] [Ao 1 (.box 3 (.t 0)),⟨some 2,.alloc [A0,A0,A1],none⟩]) (.seq (Ar [1,2,3] [⟨some 3,.alloc [A0,A0,A1],none⟩]) (.seq (Ar [1,2,3] [Af 4 1 0,Al 5 4,Af 6 3 0,As 1 6 5]) (.seq (Ar [1,2,3] [Af 7 1 1,Al 8 7,Af 9 3 1,As 1 9 8]) (.seq (Ar [2,3] [Af 10 1 2,Al 11 10,Af 12 3 2,As 1 12 11]) (.seq (Ar [2] [AL' 3 13 3,As 3 2 13]) .ret)))))
def pf257 : PF := ⟨[.b 2 3 true],[],pb257⟩

def pl258_0 : PC :=
.seq (.seq (Ar [0,3,4,11] [Am 8 4,Am 9 0,Az 10 9,Ab .lss 11 8 10]) (Aj 11 0)) (.seq (.blk 1 (Ar [0,3,4] [Am 14 3,Am 15 4,Am 16 0,Am 17 4,Ai 3 18 16 17,AL' 3 19 18,Ac1 257 20 19,Ai 3 21 14 15,As 3 21 20])) (Ar [0,3,4] [Am 12 4,Ae .add 13 12 1,Am 4 13]))
def pb258 : PC :=
.seq (Ar [0] [Ao 2 (.mv (.c (.nl 3)))]) (.seq (An1 [0,3] 7 3 [Am 5 0,Az 6 5,⟨some 7,.mks 3 32 [A2,A2,A3] (.t 6),none⟩,Am 3 7]) (.seq (.seq (Ar [0,3,4] [Ak 4 0]) (.blk 0 (.loop pl258_0))) (.seq (Ar [2,3] [Am 22 3,Am 2 22]) .ret)))
def pf258 : PF := ⟨[.s 2],[],pb258⟩

def pb259 : PC :=
.seq (Ar [1,2] [Ao 1 (.box 14 (.t 0)),Ao 2 (.alloc [(.nl 1),A0,A0,A0,A0,A0,A0,(.nl 5),(.nl 5),(.nl 1),(.nl 3),(.nl 1),(.nl 25),(.nl 25)])]) (.seq (Ar [1,2,3] [Ao 3 (.alloc [(.nl 1),A0,A0,A0,A0,A0,A0,(.nl 5),(.nl 5),(.nl 1),(.nl 3),(.nl 1),(.nl 25),(.nl 25)])]) (.seq (Ar [1,2,3] [Af 4 1 0,AL' 3 5 4,Ac1 238 6 5,Af 7 3 0,As 3 7 6]) (.seq (Ar [1,2,3] [Af 8 1 3,Al 9 8,Af 10 3 3,As 1 10 9]) (.seq (Ar [1,2,3] [Af 11 1 4,Al 12 11,Af 13 3 4,As 1 13 12]) (.seq (Ar [1,2,3] [Af 14 1 5,Al 15 14,Af 16 3 5,As 1 16 15]) (.seq (Ar [1,2,3] [Af 17 1 6,AL' 2 18 17,Ac1 243 19 18,Af 20 3 6,As 2 20 19]) (.seq (Ar [1,2,3] [Af 21 1 8,Al 22 21,Ac1 235 23 22,Af 24 3 8,As 1 24 23]) (.seq (Ar [1,2,3] [Af 25 1 9,Al 26 25,Ac1 244 27 26,Af 28 3 9,As 1 28 27]) (.seq (Ar [1,2,3] [Af 29 1 10,Al 30 29,Ac1 240 31 30,Af 32 3 10,As 1 32 31]) (.seq (Ar [1,2,3] [Af 33 1 11,Al 34 33,Ac1 244 35 34,Af 36 3 11,As 1 36 35]) (.seq (Ar [1,2,3] [Af 37 1 12,Al 38 37,Ac1 256 39 38,Af 40 3 12,As 1 40 39]) (.seq (Ar [2,3] [Af 41 1 13,Al 42 41,Ac1 242 43 42,Af 44 3 13,As 1 44 43]) (.seq (Ar [2] [AL' 14 45 3,As 14 2 45]) .ret)))))))))))))
def pf259 : PF := ⟨[.b 2 14 true],[],pb259⟩

def pl321_0 : PC :=
.seq (.seq (Ar [0,1,5,9] [Am 6 5,Am 7 0,Az 8 7,Ab .lss 9 6 8]) (Aj 9 0)) (.seq (.blk 1 (.seq (Ar [0,1,5,30] [Am 12 0,Am 13 5,Ai 25 14 12 13,Af 15 14 0,Al 16 15,Ae .eql 17 16 1,Am 18 17,Ag 19 (.mv (.t 0)) 18,Ag 20 (.mv (.t 5)) 18,Ag 21 (.iad 25 (.t 19) (.t 20)) 18,Ag 22 (.fad (.t 21) 3) 18,Ag 23 (.ld false 1 (.t 22)) 18,Ag 24 (.mv (.t 1)) 18,Ag 25 (.bin .eql (.t 23) (.t 24)) 18,Ap2 26 18 25 false,Am 27 26,Ag 28 (.mv (.t 1)) 27,Ag 29 (.bin .geq (.t 28) (Av 0)) 27,Ap2 30 27 29 false]) (.cond (.t 30) (.seq (Ar [4] [Am 31 5,Am 4 31]) .ret) .skip))) (Ar [0,1,5] [Am 10 5,Ae .add 11 10 1,Am 5 11]))
def pb321 : PC :=
.seq (Ar [0,1] [Ak 4 0]) (.seq (.seq (Ar [0,1,5] [Ak 5 0]) (.blk 0 (.loop pl321_0))) (.seq (Ar [4] [Ak 4 (-1)]) .ret))
def pf321 : PF := ⟨[.s 4],[],pb321⟩

def pb335 : PC :=
.seq (Ar [0,1] [Ak 4 0,Ao 5 (.mv (Aw false))]) (.seq (.seq (Ar [0,1,11] [Am 6 0,Ae .neq 7 6 (-1),Am 8 7,Ah 9 (.mv (.t 1)) 8,Ah 10 (.bin .lss (.t 9) (Av 1)) 8,Ap1 11 8 true 10]) (.cond (.t 11) (.seq (Ar [4,5] [Am 12 0,Am 4 12,Ao 5 (.mv (Aw false))]) .ret) .skip)) (.seq (Ar [4,5] [Am 13 1,Am 4 13,Ao 5 (.mv (Aw true))]) .ret))
def pf335 : PF := ⟨[.s 4,.s 5],[],pb335⟩

def pb336 : PC :=
.seq (Ar [1,2,3,6] [Ao 3 (.box 2 (.t 0)),Ao 6 (.alloc [A0,(.nl 2)]),Ao 7 (.mv (Aw false))]) (.seq (Ar [1,2,3,6,8] [AL' 2 11 3,Ac1 359 12 11,Ao 8 (.alloc [A0,(.nl 2)]),As 2 8 12]) (.seq (.seq (Ar [1,2,3,6,8,19] [Am 13 1,Af 14 3 1,Al 15 14,Az 16 15,Ae .sub 17 16 1,Ao 18 (.call 377 [] [(.t 13),(Av 0),(.t 17)]),At 19 18]) (.cond (.t 19) (.seq (Ar [6,7] [AL' 2 20 8,As 2 6 20,Ao 7 (.mv (Aw false))]) .ret) .skip)) (.seq (An1 [1,6,8,9,10] 29 9 [Af 22 3 1,Al 23 22,Am 24 1,Ai 2 25 23 24,Af 26 25 0,Al 27 26,Am 28 2,Ac2 335 29 27 28,Am 21 29,Ax 30 21 0,Ax 31 21 1,Am 9 30,Am 10 31]) (.seq (Ar [6,8,9,10] [Af 32 8 1,Al 33 32,Am 34 1,Am 35 9,Ai 2 36 33 34,Af 37 36 0,As 1 37 35]) (.seq (Ar [6,7,9] [AL' 2 38 8,Am 39 10,As 2 6 38,Am 7 39]) .ret)))))
def pf336 : PF := ⟨[.b 6 2 true,.s 7],[],pb336⟩

def pb340 : PC :=
.seq (Ar [2,3] [Ao 2 (.box 14 (.t 0)),Ao 3 (.box 5 (.t 1)),Ao 4 (.mv (Aw false))]) (.seq (.seq (Ar [2,3,13] [Af 6 3 0,Al 7 6,Af 8 2 8,Al 9 8,Az 10 9,Ae .sub 11 10 1,Ao 12 (.call 377 [] [(.t 7),(Av 0),(.t 11)]),At 13 12]) (.cond (.t 13) (.seq (Ar [4] [Ao 4 (.mv (Aw false))]) .ret) .skip)) (.seq (Ar [3,5] [Af 14 2 8,Al 15 14,Af 16 3 0,Al 17 16,Ai 5 18 15 17,AL' 5 19 18,Ao 5 (.alloc [A0,A0,A0,(.nl 2),(.nl 1)]),As 5 5 19]) (.seq (.seq (Ar [3,5,31] [Af 20 5 0,Al 21 20,Af 22 3 1,Al 23 22,Ab .neq 24 21 23,Am 25 24,Ah 26 (.fad (.t 5) 1) 25,Ah 27 (.ld false 1 (.t 26)) 25,Ah 28 (.fad (.t 3) 2) 25,Ah 29 (.ld false 1 (.t 28)) 25,Ah 30 (.bin .neq (.t 27) (.t 29)) 25,Ap1 31 25 true 30]) (.cond (.t 31) (.seq (Ar [4] [Ao 4 (.mv (Aw false))]) .ret) .skip)) (.seq (Ar [4] [Af 32 3 2,Al 33 32,Ae .neq 34 33 1,Am 35 34,Ah 36 (.fad (.t 5) 2) 35,Ah 37 (.fad (.t 36) 1) 35,Ah 38 (.ld false 1 (.t 37)) 35,Ah 39 (.len (.t 38)) 35,Ah 40 (.fad (.t 3) 4) 35,Ah 41 (.ld false 1 (.t 40)) 35,Ah 42 (.bin .eql (.t 39) (.t 41)) 35,Ap1 43 35 true 42,Am 4 43]) .ret))))
def pf340 : PF := ⟨[.s 4],[],pb340⟩

def pb353 : PC :=
.seq (Ar [1,2] [Ao 1 (.box 10 (.t 0)),⟨some 2,.alloc [A0,A0,A0,A0,A0,A0,A1,(.nl 7),A0,(.nl 1)],none⟩]) (.seq (Ar [1,2,3] [AL' 10 5 1,⟨some 3,.alloc [A0,A0,A0,A0,A0,A0,A1,(.nl 7),A0,(.nl 1)],none⟩,As 10 3 5]) (.seq (Ar [1,2,3,4] [Af 6 1 1,AL' 7 7 6,Ac1 355 8 7,⟨some 4,.alloc [A0,A0,A0,A0,A0,A1,(.nl 7)],none⟩,As 7 4 8]) (.seq (Ar [1,2,3] [AL' 7 9 4,Af 10 3 1,As 7 10 9]) (.seq (Ar [2,3] [Ao 11 (.bsl 1 [] 0 []),Af 12 1 9,Al 13 12,Ao 14 (.app 1 8 (.t 11) (.t 13)),Af 15 3 9,As 1 15 14]) (.seq (Ar [2] [AL' 10 16 3,As 10 2 16]) .ret)))))
def pf353 : PF := ⟨[.b 2 10 true],[],pb353⟩

def pl355_0 : PC :=
.seq (.seq (Ar [1,2,3,4,13] [Am 9 4,Af 10 1 6,Al 11 10,Az 12 11,Ab .lss 13 9 12]) (Aj 13 0)) (.seq (.blk 1 (.seq (Ar [1,2,3,4,5] [Af 16 1 6,Al 17 16,Am 18 4,Ai 7 19 17 18,AL' 7 20 19,Ac1 355 21 20,⟨some 5,.alloc [A0,A0,A0,A0,A0,A1,(.nl 7)],none⟩,As 7 5 21]) (Ar [1,2,3,4] [Af 22 3 6,Al 23 22,AL' 7 24 5,⟨some 25,.bsl 7 [A2,A2,A2,A2,A2,A3,.sl 7 []] 1 [(0,(.t 24))],none⟩,Ao 26 (.app 7 80 (.t 23) (.t 25)),Af 27 3 6,As 1 27 26]))) (Ar [1,2,3,4] [Am 14 4,Ae .add 15 14 1,Am 4 15]))
def pb355 : PC :=
.seq (Ar [1,2] [Ao 1 (.box 7 (.t 0)),⟨some 2,.alloc [A0,A0,A0,A0,A0,A1,(.nl 7)],none⟩]) (.seq (Ar [1,2,3] [AL' 7 6 1,⟨some 3,.alloc [A0,A0,A0,A0,A0,A1,(.nl 7)],none⟩,As 7 3 6]) (.seq (Ar [1,2,3] [Ao 7 (.bsl 7 [] 0 []),Af 8 3 6,As 1 8 7]) (.seq (.seq (Ar [1,2,3,4] [Ak 4 0]) (.blk 0 (.loop pl355_0))) (.seq (Ar [2] [AL' 7 28 3,As 7 2 28]) .ret))))
def pf355 : PF := ⟨[.b 2 7 true],[],pb355⟩

def pb356 : PC :=
.seq (Ar [1,2] [Ao 1 (.box 6 (.t 0)),⟨some 2,.alloc [(.nl 2),A0,(.v false (.bool false)),A0,A0,A1],none⟩]) (.seq (Ar [1,2,3] [AL' 6 4 1,⟨some 3,.alloc [(.nl 2),A0,(.v false (.bool false)),A0,A0,A1],none⟩,As 6 3 4]) (.seq (Ar [2,3] [Af 5 1 0,Al 6 5,Ac1 397 7 6,Af 8 3 0,As 1 8 7]) (.seq (Ar [2] [AL' 6 9 3,As 6 2 9]) .ret)))
def pf356 : PF := ⟨[.b 2 6 true],[],pb356⟩

def pl359_0 : PC :=
.seq (.seq (Ar [1,2,3,4,13] [Am 9 4,Af 10 1 1,Al 11 10,Az 12 11,Ab .lss 13 9 12]) (Aj 13 0)) (.seq (.blk 1 (.reg [1,2,3,4] [] [Af 16 3 1,Al 17 16,Af 18 1 1,Al 19 18,Am 20 4,Ai 2 21 19 20,Af 22 21 0,Al 23 22,Ao 24 (.bsl 3 [] 0 []),Af 25 1 1,Al 26 25,Am 27 4,Ai 2 28 26 27,Af 29 28 1,Al 30 29,Ao 31 (.app 3 32 (.t 24) (.t 30)),Ao 32 (.build [A0,(.nl 3)] [(0,1,(.t 23)),(1,1,(.t 31))]),Ao 33 (.bsl 2 [A2,.sl 3 []] 1 [(0,(.t 32))]),Ao 34 (.app 2 32 (.t 17) (.t 33)),Af 35 3 1,As 1 35 34] (some [(1,8),(3,8),(5,8),(7,8),(8,10),(8,12),(8,14),(1,15),(3,15),(5,15),(7,15),(1,17)]))) (Ar [1,2,3,4] [Am 14 4,Ae .add 15 14 1,Am 4 15]))
def pb359 : PC :=
.seq (Ar [1,2] [Ao 1 (.box 2 (.t 0)),Ao 2 (.alloc [A0,(.nl 2)])]) (.seq (Ar [1,2,3] [Af 5 1 0,Al 6 5,Ao 7 (.bsl 2 [] 0 []),Ao 8 (.build [A0,(.nl 2)] [(0,1,(.t 6)),(1,1,(.t 7))]),Ao 3 (.alloc [A0,(.nl 2)]),As 2 3 8]) (.seq (.seq (Ar [1,2,3,4] [Ak 4 0]) (.blk 0 (.loop pl359_0))) (.seq (Ar [2] [AL' 2 36 3,As 2 2 36]) .ret)))
def pf359 : PF := ⟨[.b 2 2 true],[],pb359⟩

def pl362_0 : PC :=
.seq (.seq (Ar [0,3,4,10] [Am 7 4,Am 8 0,Az 9 8,Ab .lss 10 7 9]) (Aj 10 0)) (.seq (.blk 1 (.seq (Ar [0,3,4,5] [Am 13 0,Am 14 4,Ai 5 15 13 14,AL' 5 16 15,Ac1 363 17 16,Ao 5 (.alloc [A0,A0,A0,(.nl 2),(.nl 1)]),As 5 5 17]) (An1 [0,3,4] 21 3 [Am 18 3,AL' 5 19 5,Ao 20 (.bsl 5 [A2,A2,A2,.sl 2 [],.sl 1 []] 1 [(0,(.t 19))]),Ao 21 (.app 5 72 (.t 18) (.t 20)),Am 3 21]))) (Ar [0,3,4] [Am 11 4,Ae .add 12 11 1,Am 4 12]))
def pb362 : PC :=
.seq (Ar [0] [Ao 2 (.mv (.c (.nl 5)))]) (.seq (An1 [0,3] 6 3 [Ao 6 (.bsl 5 [] 0 []),Am 3 6]) (.seq (.seq (Ar [0,3,4] [Ak 4 0]) (.blk 0 (.loop pl362_0))) (.seq (Ar [2,3] [Am 22 3,Am 2 22]) .ret)))
def pf362 : PF := ⟨[.s 2],[],pb362⟩

def pb363 : PC :=
.seq (Ar [1,2] [Ao 1 (.box 5 (.t 0)),Ao 2 (.alloc [A0,A0,A0,(.nl 2),(.nl 1)])]) (.seq (.reg [2] [] [Af 3 1 0,Al 4 3,Af 5 1 1,Al 6 5,Af 7 1 2,AL' 2 8 7,Ac1 359 9 8,Ao 10 (.bsl 1 [] 0 []),Af 11 1 4,Al 12 11,Ao 13 (.app 1 1 (.t 10) (.t 12)),Ao 14 (.build [A0,A0,A0,(.nl 2),(.nl 1)] [(0,1,(.t 4)),(1,1,(.t 6)),(2,2,(.t 9)),(4,1,(.t 13))]),As 5 2 14] (some [(1,6),(3,6),(1,7),(3,7),(5,7),(6,7),(6,9),(7,9),(1,10),(3,10)])) .ret)
def pf363 : PF := ⟨[.b 2 5 true],[],pb363⟩

def pb368 : PC :=
.seq (Ar [1,2] [Ao 1 (.box 2 (.t 0)),Ao 2 (.alloc [A0,(.nl 5)])]) (.seq (.reg [2] [] [Af 3 1 0,Al 4 3,Ao 5 (.bsl 5 [] 0 []),Af 6 1 1,Al 7 6,Ao 8 (.app 5 40 (.t 5) (.t 7)),Ao 9 (.build [A0,(.nl 5)] [(0,1,(.t 4)),(1,1,(.t 8))]),As 2 2 9] (some [(1,2),(2,4),(1,5)])) .ret)
def pf368 : PF := ⟨[.b 2 2 true],[],pb368⟩

def pb377 : PC :=
.seq (Ar [0,1,2] [Ao 6 (.mv (Aw false))]) (.seq (Ar [6] [Am 7 0,Am 8 1,Ab .geq 9 7 8,Am 10 9,Ag 11 (.mv (.t 0)) 10,Ag 12 (.mv (.t 2)) 10,Ag 13 (.bin .leq (.t 11) (.t 12)) 10,Ap2 14 10 13 false,Am 6 14]) .ret)
def pf377 : PF := ⟨[.s 6],[],pb377⟩

def pb387 : PC :=
.seq (Ar [1,2] [Ao 1 (.box 25 (.t 0)),⟨some 2,.alloc [A0,A0,(.nl 3),A0,A0,A0,A0,A0,A0,A0,A1,(.nl 7),A0,(.nl 1),(.nl 2),A0,(.v false (.bool false)),A0,A0,A1,A0,A0,A0,A0,A0],none⟩]) (.seq (Ar [1,2,3] [AL' 25 6 1,⟨some 3,.alloc [A0,A0,(.nl 3),A0,A0,A0,A0,A0,A0,A0,A1,(.nl 7),A0,(.nl 1),(.nl 2),A0,(.v false (.bool false)),A0,A0,A1,A0,A0,A0,A0,A0],none⟩,As 25 3 6]) (.seq (Ar [1,2,3] [Ao 7 (.bsl 3 [] 0 []),Af 8 1 2,Al 9 8,Ao 10 (.app 3 32 (.t 7) (.t 9)),Af 11 3 2,As 1 11 10]) (.seq (Ar [1,2,3,4] [Af 12 1 4,AL' 10 13 12,Ac1 353 14 13,⟨some 4,.alloc [A0,A0,A0,A0,A0,A0,A1,(.nl 7),A0,(.nl 1)],none⟩,As 10 4 14]) (.seq (Ar [1,2,3] [AL' 10 15 4,Af 16 3 4,As 10 16 15]) (.seq (Ar [2,3,5] [Af 17 1 14,AL' 6 18 17,Ac1 356 19 18,⟨some 5,.alloc [(.nl 2),A0,(.v false (.bool false)),A0,A0,A1],none⟩,As 6 5 19]) (.seq (Ar [2,3] [AL' 6 20 5,Af 21 3 14,As 6 21 20]) (.seq (Ar [2] [AL' 25 22 3,As 25 2 22]) .ret)))))))
def pf387 : PF := ⟨[.b 2 25 true],[],pb387⟩

def pl397_0 : PC :=
.seq (.seq (Ar [0,3,4,10] [Am 7 4,Am 8 0,Az 9 8,Ab .lss 10 7 9]) (Aj 10 0)) (.seq (.blk 1 (.seq (Ar [0,3,4,5] [Am 13 0,Am 14 4,Ai 2 15 13 14,AL' 2 16 15,Ac1 400 17 16,Ao 5 (.alloc [A0,(.nl 3)]),As 2 5 17]) (An1 [0,3,4] 21 3 [Am 18 3,AL' 2 19 5,Ao 20 (.bsl 2 [A2,.sl 3 []] 1 [(0,(.t 19))]),Ao 21 (.app 2 32 (.t 18) (.t 20)),Am 3 21]))) (Ar [0,3,4] [Am 11 4,Ae .add 12 11 1,Am 4 12]))
def pb397 : PC :=
.seq (Ar [0] [Ao 2 (.mv (.c (.nl 2)))]) (.seq (An1 [0,3] 6 3 [Ao 6 (.bsl 2 [] 0 []),Am 3 6]) (.seq (.seq (Ar [0,3,4] [Ak 4 0]) (.blk 0 (.loop pl397_0))) (.seq (Ar [2,3] [Am 22 3,Am 2 22]) .ret)))
def pf397 : PF := ⟨[.s 2],[],pb397⟩

def pb400 : PC :=
.seq (Ar [1,2] [Ao 1 (.box 2 (.t 0)),Ao 2 (.alloc [A0,(.nl 3)])]) (.seq (.reg [2] [] [Af 3 1 0,Al 4 3,Ao 5 (.bsl 3 [] 0 []),Af 6 1 1,Al 7 6,Ao 8 (.app 3 32 (.t 5) (.t 7)),Ao 9 (.build [A0,(.nl 3)] [(0,1,(.t 4)),(1,1,(.t 8))]),As 2 2 9] (some [(1,2),(2,4),(1,5)])) .ret)
def pf400 : PF := ⟨[.b 2 2 true],[],pb400⟩

def pb417 : PC :=
.seq (Ar [2,3,4,5,6] [Ao 5 (.box 14 (.t 0)),Ao 6 (.box 5 (.t 1)),Ao 10 (.mv (Aw false))]) (.seq (Ar [2,3,4,5,6,11] [Ak 11 1048576]) (.seq (An1 [2,3,4,5,6,11] 24 11 [AL' 14 22 5,Am 23 11,Ac2 233 24 22 23,Am 11 24]) (.seq (.seq (Ar [2,3,4,5,6,26] [Am 25 11,Ae .lss 26 25 0]) (.cond (.t 26) (.seq (Ar [10] [Ao 10 (.mv (Aw true))]) .ret) .skip)) (.seq (.reg [2,3,4,5,6,12,13] [(35,13)] [AL' 14 28 5,Ac1 259 29 28,AL' 5 30 6,Ac1 248 31 30,Am 32 2,Am 33 3,Am 34 4,Ao 35 (.call 433 [] [(.t 29),(.t 31),(.t 32),(.t 33),(.t 34)]),Am 27 35,Ax 36 27 0,Ax 37 27 1,Ao 12 (.alloc [(.nl 1),A0,A0,A0,A0,A0,A0,(.nl 5),(.nl 5),(.nl 1),(.nl 3),(.nl 1),(.nl 25),(.nl 25)]),As 14 12 36,Am 13 37] (some [(1,2),(0,11),(1,11),(2,11),(3,11),(7,11)])) (.seq (Ar [2,3,4,5,6,12,13,14] [AL' 14 38 5,Ac1 259 39 38,Ao 14 (.alloc [(.nl 1),A0,A0,A0,A0,A0,A0,(.nl 5),(.nl 5),(.nl 1),(.nl 3),(.nl 1),(.nl 25),(.nl 25)]),As 14 14 39]) (.seq (.reg [2,3,4,5,6,12,13,14,15,16] [(47,16)] [AL' 14 41 14,AL' 5 42 6,Ac1 248 43 42,Am 44 2,Am 45 3,Am 46 4,Ao 47 (.call 434 [] [(.t 41),(.t 43),(.t 44),(.t 45),(.t 46)]),Am 40 47,Ax 48 40 0,Ax 49 40 1,Ao 15 (.alloc [(.nl 1),A0,A0,A0,A0,A0,A0,(.nl 5),(.nl 5),(.nl 1),(.nl 3),(.nl 1),(.nl 25),(.nl 25)]),As 14 15 48,Am 16 49] (some [(0,2),(0,10),(1,10),(2,10),(6,10)])) (.seq (.seq (Ar [2,3,4,5,6,12,13,14,15,16,58] [AL' 14 50 15,AL' 14 51 12,Ac2 167 52 50 51,At 53 52,Am 54 53,Ah 55 (.mv (.t 16)) 54,Ah 56 (.mv (.t 13)) 54,Ah 57 (.eqb true (.t 55) (.t 56)) 54,Ap1 58 54 true 57]) (.cond (.t 58) (.seq (Ar [10] [Ao 10 (.mv (Aw false))]) .ret) .skip)) (.seq (.seq (.reg [2,3,4,5,6,12,13,14,15,16,63] [] [AL' 14 59 14,AL' 14 60 5,Ac1 259 61 60,Ac2 167 62 59 61,At 63 62] (some [(0,2)])) (.cond (.t 63) (.seq (Ar [10] [Ao 10 (.mv (Aw false))]) .ret) .skip)) (.seq (Ar [2,3,4,5,6,12,13,14,15,16,17] [Ak 17 1]) (.seq (An1 [2,3,4,5,6,12,13,15,16,17] 66 17 [AL' 14 64 14,Am 65 17,Ao 66 (.call 198 [0] [(.t 64),(.t 65)]),Am 17 66]) (.seq (.seq (Ar [2,3,4,5,6,12,13,15,79] [Am 67 17,Ae .lss 68 67 0,Am 69 68,Ah 70 (.ld true 14 (.t 15)) 69,Ah 71 (.ld true 14 (.t 12)) 69,Ah 72 (.call 167 [] [(.t 70),(.t 71)]) 69,Ah 73 (.un .not (.t 72)) 69,Ap1 74 69 true 73,Am 75 74,Ah 76 (.mv (.t 16)) 75,Ah 77 (.mv (.t 13)) 75,Ah 78 (.eqb true (.t 76) (.t 77)) 75,Ap1 79 75 true 78]) (.cond (.t 79) (.seq (Ar [10] [Ao 10 (.mv (Aw false))]) .ret) .skip)) (.seq (Ar [2,3,4,5,6,12,13,15,18] [Ak 18 1]) (.seq (An1 [2,3,4,5,6,12,13,15,18] 82 18 [AL' 14 80 15,Am 81 18,Ao 82 (.call 198 [0] [(.t 80),(.t 81)]),Am 18 82]) (.seq (Ar [2,3,4,5,6,12,13,15,18,19] [Ak 19 1]) (.seq (An1 [2,3,4,5,6,12,13,15,18,19] 85 19 [AL' 14 83 15,Am 84 19,Ac2 182 85 83 84,Am 19 85]) (.seq (.seq (Ar [2,3,4,5,6,12,13,15,18,19,87] [Am 86 19,Ae .lss 87 86 0]) (.cond (.t 87) (.seq (Ar [10] [Ao 10 (.mv (Aw false))]) .ret) .skip)) (.seq (.seq (Ar [2,3,4,5,6,12,13,15,18,90] [Am 88 19,Am 89 18,Ab .neq 90 88 89]) (.cond (.t 90) (.seq (Ar [10] [Ao 10 (.mv (Aw false))]) .ret) .skip)) (.seq (.reg [12,13,15,18,20,21] [(99,21)] [AL' 14 92 5,Ac1 259 93 92,AL' 5 94 6,Ac1 248 95 94,Am 96 2,Am 97 3,Am 98 4,Ao 99 (.call 434 [] [(.t 93),(.t 95),(.t 96),(.t 97),(.t 98)]),Am 91 99,Ax 100 91 0,Ax 101 91 1,Ao 20 (.alloc [(.nl 1),A0,A0,A0,A0,A0,A0,(.nl 5),(.nl 5),(.nl 1),(.nl 3),(.nl 1),(.nl 25),(.nl 25)]),As 14 20 100,Am 21 101] (some [(1,2),(0,11),(1,11),(2,11),(3,11),(7,11)])) (.seq (.seq (Ar [15,18,110] [AL' 14 102 20,AL' 14 103 12,Ac2 167 104 102 103,At 105 104,Am 106 105,Ah 107 (.mv (.t 21)) 106,Ah 108 (.mv (.t 13)) 106,Ah 109 (.eqb true (.t 107) (.t 108)) 106,Ap1 110 106 true 109]) (.cond (.t 110) (.seq (Ar [10] [Ao 10 (.mv (Aw false))]) .ret) .skip)) (.seq (Ar [15,18,19] [Ak 19 1]) (.seq (An1 [18,19] 113 19 [AL' 14 111 15,Am 112 19,Ac2 182 113 111 112,Am 19 113]) (.seq (.seq (Ar [18,19,115] [Am 114 19,Ae .lss 115 114 0]) (.cond (.t 115) (.seq (Ar [10] [Ao 10 (.mv (Aw false))]) .ret) .skip)) (.seq (.seq (Ar [118] [Am 116 19,Am 117 18,Ab .neq 118 116 117]) (.cond (.t 118) (.seq (Ar [10] [Ao 10 (.mv (Aw false))]) .ret) .skip)) (.seq (Ar [10] [Ao 10 (.mv (Aw true))]) .ret))))))))))))))))))))))))
def pf417 : PF := ⟨[.s 10],[],pb417⟩

def pb433 : PC :=
.seq (Ar [2,3,4,5,6,10] [Ao 5 (.box 14 (.t 0)),Ao 6 (.box 5 (.t 1)),Ao 10 (.alloc [(.nl 1),A0,A0,A0,A0,A0,A0,(.nl 5),(.nl 5),(.nl 1),(.nl 3),(.nl 1),(.nl 25),(.nl 25)]),Ao 11 (.mv (Aw false))]) (.seq (Ar [2,3,4,6,10,12] [AL' 14 14 5,Ac1 464 15 14,Ao 12 (.alloc [(.nl 1),A0,A0,A0,A0,A0,A0,(.nl 5),(.nl 5),(.nl 1),(.nl 3),(.nl 1),(.nl 25),(.nl 25)]),As 14 12 15]) (.seq (An1 [10,12,13] 20 13 [AL' 5 16 6,Am 17 2,Am 18 3,Am 19 4,Ao 20 (.call 468 [0] [(.t 12),(.t 16),(.t 17),(.t 18),(.t 19)]),Am 13 20]) (.seq (Ar [10,11,13] [AL' 14 21 12,Am 22 13,As 14 10 21,Am 11 22]) .ret)))
def pf433 : PF := ⟨[.b 10 14 true,.s 11],[],pb433⟩

def pb434 : PC :=
.seq (Ar [2,3,4,5,6,10] [Ao 5 (.box 14 (.t 0)),Ao 6 (.box 5 (.t 1)),Ao 10 (.alloc [(.nl 1),A0,A0,A0,A0,A0,A0,(.nl 5),(.nl 5),(.nl 1),(.nl 3),(.nl 1),(.nl 25),(.nl 25)]),Ao 11 (.mv (Aw false))]) (.seq (Ar [2,3,4,6,10,12] [AL' 14 14 5,Ac1 466 15 14,Ao 12 (.alloc [(.nl 1),A0,A0,A0,A0,A0,A0,(.nl 5),(.nl 5),(.nl 1),(.nl 3),(.nl 1),(.nl 25),(.nl 25)]),As 14 12 15]) (.seq (An1 [10,12,13] 20 13 [AL' 5 16 6,Am 17 2,Am 18 3,Am 19 4,Ao 20 (.call 469 [0] [(.t 12),(.t 16),(.t 17),(.t 18),(.t 19)]),Am 13 20]) (.seq (Ar [10,11,13] [AL' 14 21 12,Am 22 13,As 14 10 21,Am 11 22]) .ret)))
def pf434 : PF := ⟨[.b 10 14 true,.s 11],[],pb434⟩

def pl464_0 : PC :=
.seq (.seq (Ar [1,2,3,5,45] [Am 41 5,Af 42 1 12,Al 43 42,Az 44 43,Ab .lss 45 41 44]) (Aj 45 0)) (.seq (.blk 1 (.seq (Ar [1,2,3,5,6] [Af 48 1 12,Al 49 48,Am 50 5,Ai 25 51 49 50,AL' 25 52 51,Ac1 499 53 52,⟨some 6,.alloc [A0,A0,A0,(.nl 3),A0,A0,A0,A0,A0,A0,A0,A1,(.nl 7),A0,(.nl 1),A0,A0,(.nl 5),A0,A0,A0,A0,A0,(.v false (.bool false)),(.nl 2)],none⟩,As 25 6 53]) (Ar [1,2,3,5] [Af 54 3 12,Al 55 54,AL' 25 56 6,⟨some 57,.bsl 25 [A2,A2,A2,.sl 3 [],A2,A2,A2,A2,A2,A2,A2,A3,.sl 7 [],A2,.sl 1 [],A2,A2,.sl 5 [],A2,A2,A2,A2,A2,.bool false,.sl 2 []] 1 [(0,(.t 56))],none⟩,Ao 58 (.app 25 288 (.t 55) (.t 57)),Af 59 3 12,As 1 59 58]))) (Ar [1,2,3,5] [Am 46 5,Ae .add 47 46 1,Am 5 47]))
def pb464 : PC :=
.seq (Ar [1,2] [Ao 1 (.box 14 (.t 0)),Ao 2 (.alloc [(.nl 1),A0,A0,A0,A0,A0,A0,(.nl 5),(.nl 5),(.nl 1),(.nl 3),(.nl 1),(.nl 25),(.nl 25)])]) (.seq (Ar [1,2,3] [AL' 14 7 1,Ao 3 (.alloc [(.nl 1),A0,A0,A0,A0,A0,A0,(.nl 5),(.nl 5),(.nl 1),(.nl 3),(.nl 1),(.nl 25),(.nl 25)]),As 14 3 7]) (.seq (Ar [1,2,3] [Ao 8 (.bsl 1 [] 0 []),Af 9 1 0,Af 10 9 0,Al 11 10,Ao 12 (.app 1 8 (.t 8) (.t 11)),Af 13 3 0,Af 14 13 0,As 1 14 12]) (.seq (Ar [1,2,3,4] [Af 15 1 6,AL' 2 16 15,Ac1 368 17 16,Ao 4 (.alloc [A0,(.nl 5)]),As 2 4 17]) (.seq (Ar [1,2,3] [AL' 2 18 4,Af 19 3 6,As 2 19 18]) (.seq (Ar [1,2,3] [Af 20 1 8,Al 21 20,Ac1 362 22 21,Af 23 3 8,As 1 23 22]) (.seq (Ar [1,2,3] [Ao 24 (.bsl 1 [] 0 []),Af 25 1 9,Al 26 25,Ao 27 (.app 1 8 (.t 24) (.t 26)),Af 28 3 9,As 1 28 27]) (.seq (Ar [1,2,3] [Ao 29 (.bsl 3 [] 0 []),Af 30 1 10,Al 31 30,Ao 32 (.app 3 24 (.t 29) (.t 31)),Af 33 3 10,As 1 33 32]) (.seq (Ar [1,2,3] [Ao 34 (.bsl 1 [] 0 []),Af 35 1 11,Al 36 35,Ao 37 (.app 1 8 (.t 34) (.t 36)),Af 38 3 11,As 1 38 37]) (.seq (Ar [1,2,3] [Ao 39 (.bsl 25 [] 0 []),Af 40 3 12,As 1 40 39]) (.seq (.seq (Ar [1,2,3,5] [Ak 5 0]) (.blk 0 (.loop pl464_0))) (.seq (Ar [2,3] [Af 60 1 13,Al 61 60,Ac1 500 62 61,Af 63 3 13,As 1 63 62]) (.seq (Ar [2] [AL' 14 64 3,As 14 2 64]) .ret))))))))))))
def pf464 : PF := ⟨[.b 2 14 true],[],pb464⟩

def pl466_0 : PC :=
.seq (Ar [1,2,3,63,64,65,66] [Ab .lss 66 65 64]) (.seq (Aj 66 2) (.seq (.blk 3 (.seq (Ar [1,2,3,7,63,64,65] [Ai 25 67 63 65,AL' 25 68 67,⟨some 7,.alloc [A0,A0,(.nl 3),A0,A0,A0,A0,A0,A0,A0,A1,(.nl 7),A0,(.nl 1),(.nl 2),A0,(.v false (.bool false)),A0,A0,A1,A0,A0,A0,A0,A0],none⟩,As 25 7 68]) (.reg [1,2,3,63,64,65] [] [Af 69 3 13,Al 70 69,AL' 25 71 7,Ac1 502 72 71,⟨some 73,.bsl 25 [A2,A2,.sl 3 [],A2,A2,A2,A2,A2,A2,A2,A3,.sl 7 [],A2,.sl 1 [],.sl 2 [],A2,.bool false,A2,A2,A3,A2,A2,A2,A2,A2] 1 [(0,(.t 72))],none⟩,Ao 74 (.app 25 280 (.t 70) (.t 73)),Af 75 3 13,As 1 75 74] (some [(1,3),(1,4)])))) (Ar [1,2,3,63,64,65] [Ae .add 76 65 1,Am 65 76])))
def pl466_1 : PC :=
.seq (Ar [1,2,3,48,49,50,51] [Ab .lss 51 50 49]) (.seq (Aj 51 0) (.seq (.blk 1 (.seq (Ar [1,2,3,5,48,49,50] [Ai 25 52 48 50,AL' 25 53 52,⟨some 5,.alloc [A0,A0,A0,(.nl 3),A0,A0,A0,A0,A0,A0,A0,A1,(.nl 7),A0,(.nl 1),A0,A0,(.nl 5),A0,A0,A0,A0,A0,(.v false (.bool false)),(.nl 2)],none⟩,As 25 5 53]) (.reg [1,2,3,48,49,50] [] [Af 54 3 12,Al 55 54,AL' 25 56 5,Ac1 501 57 56,⟨some 58,.bsl 25 [A2,A2,A2,.sl 3 [],A2,A2,A2,A2,A2,A2,A2,A3,.sl 7 [],A2,.sl 1 [],A2,A2,.sl 5 [],A2,A2,A2,A2,A2,.bool false,.sl 2 []] 1 [(0,(.t 57))],none⟩,Ao 59 (.app 25 288 (.t 55) (.t 58)),Af 60 3 12,As 1 60 59] (some [(1,3),(1,4)])))) (Ar [1,2,3,48,49,50] [Ae .add 61 50 1,Am 50 61])))
def pb466 : PC :=
.seq (Ar [1,2] [Ao 1 (.box 14 (.t 0)),Ao 2 (.alloc [(.nl 1),A0,A0,A0,A0,A0,A0,(.nl 5),(.nl 5),(.nl 1),(.nl 3),(.nl 1),(.nl 25),(.nl 25)])]) (.seq (.reg [1,2,3] [] [Af 8 1 0,Af 9 8 0,Al 10 9,Ac1 72 11 10,Af 12 1 0,Af 13 12 1,Al 14 13,Af 15 1 0,Af 16 15 2,Al 17 16,Ao 18 (.build [(.nl 1),A0,A0] [(0,1,(.t 11)),(1,1,(.t 14)),(2,1,(.t 17))]),Af 19 1 3,Al 20 19,Af 21 1 4,Al 22 21,Af 23 1 5,Al 24 23,Ao 25 (.build [(.nl 1),A0,A0,A0,A0,A0,A0,(.nl 5),(.nl 5),(.nl 1),(.nl 3),(.nl 1),(.nl 25),(.nl 25)] [(0,3,(.t 18)),(3,1,(.t 20)),(4,1,(.t 22)),(5,1,(.t 24))]),Ao 3 (.alloc [(.nl 1),A0,A0,A0,A0,A0,A0,(.nl 5),(.nl 5),(.nl 1),(.nl 3),(.nl 1),(.nl 25),(.nl 25)]),As 14 3 25] (some [(3,6),(3,9),(3,12),(3,14),(3,16),(2,18),(3,18),(6,18),(9,18),(12,18),(14,18),(16,18)])) (.seq (.reg [1,2,3] [] [Af 26 1 6,AL' 2 27 26,Ac1 71 28 27,Af 29 1 8,Al 30 29,Ac1 73 31 30,Af 32 1 9,Al 33 32,Ac1 72 34 33,Af 35 3 6,As 2 35 28,Af 36 3 8,As 1 36 31,Af 37 3 9,As 1 37 34] (some [(2,4),(2,7),(5,7)])) (.seq (.reg [1,2,3] [] [Ao 38 (.bsl 3 [] 0 []),Af 39 1 10,Al 40 39,Ao 41 (.app 3 24 (.t 38) (.t 40)),Af 42 1 11,Al 43 42,Ac1 72 44 43,Af 45 3 10,As 1 45 41,Af 46 3 11,As 1 46 44] (some [(0,2),(0,5),(3,5)])) (.seq (.seq (Ar [1,2,3,48,49,50] [Af 47 1 12,Al 48 47,Az 49 48,Ak 50 0]) (.blk 0 (.loop pl466_1))) (.seq (.seq (Ar [1,2,3,63,64,65] [Af 62 1 13,Al 63 62,Az 64 63,Ak 65 0]) (.blk 2 (.loop pl466_0))) (.seq (Ar [2] [AL' 14 77 3,As 14 2 77]) .ret))))))
def pf466 : PF := ⟨[.b 2 14 true],[],pb466⟩

def pb468 : PC :=
.seq (Ar [0,2,3,4,6] [Ao 6 (.box 5 (.t 1)),Ao 10 (.mv (Aw false))]) (.seq (.seq (Aq [0,2,3,4,6,24] [Af 14 6 2,Al 15 14,Ae .neq 16 15 1,Am 17 16,Ah 18 (.mv (.t 0)) 17,Ah 19 (.nck (.t 18)) 17,Ah 20 (.ld true 14 (.t 19)) 17,Ah 21 (.ld true 5 (.t 6)) 17,Ah 22 (.call 340 [] [(.t 20),(.t 21)]) 17,Ah 23 (.un .not (.t 22)) 17,Ap1 24 17 true 23]) (.cond (.t 24) (.seq (Ar [0,10] [Ao 10 (.mv (Aw false))]) .ret) .skip)) (.seq (.reg [0,2,3,4,6,11,12] [(37,12)] [Am 26 0,An 27 26,Af 28 27 8,Al 29 28,Af 30 6 0,Al 31 30,Ai 5 32 29 31,Af 33 32 2,AL' 2 34 33,Am 35 2,Am 36 3,Ac3 336 37 34 35 36,Am 25 37,Ax 38 25 0,Ax 39 25 1,Ao 11 (.alloc [A0,(.nl 2)]),As 2 11 38,Am 12 39] (some [(3,15),(5,15),(6,15),(8,15),(11,15)])) (.seq (.seq (Ar [0,2,3,4,6,11,41] [Am 40 12,At 41 40]) (.cond (.t 41) (.seq (Ar [0,10] [Ao 10 (.mv (Aw false))]) .ret) .skip)) (.seq (Aq [0,2,3,4,6] [Am 42 0,An 43 42,Af 44 43 8,Al 45 44,Af 46 6 0,Al 47 46,AL' 2 48 11,Ai 5 49 45 47,Af 50 49 2,As 2 50 48]) (.seq (.reg [0,3,4,13] [(59,13)] [Am 51 0,An 52 51,Af 53 52 13,Al 54 53,Af 55 6 3,Al 56 55,Am 57 2,Ab .add 58 56 57,Ac2 321 59 54 58,Am 13 59] (some [])) (.seq (.seq (Ar [0,3,4,13,61] [Am 60 13,Ae .geq 61 60 0]) (.cond (.t 61) (.seq (Ar [0,3,13] [Am 62 0,An 63 62,Af 64 63 13,Al 65 64,Am 66 13,Am 67 4,Ai 25 68 65 66,Af 69 68 23,As 1 69 67]) (.seq (Ar [0,13] [Am 70 0,An 71 70,Af 72 71 13,Al 73 72,Am 74 13,Am 75 3,Ai 25 76 73 74,Af 77 76 21,As 1 77 75]) (Ar [0] [Am 78 0,An 79 78,Af 80 79 13,Al 81 80,Am 82 13,Ai 25 83 81 82,Af 84 83 20,⟨none,.st 1 (.t 84) (Av 1),none⟩]))) .skip)) (.seq (Ar [0,10] [Ao 10 (.mv (Aw true))]) .ret)))))))
def pf468 : PF := ⟨[.s 10],[0],pb468⟩

def pb469 : PC :=
.seq (Ar [0,2,3,4,6] [Ao 6 (.box 5 (.t 1)),Ao 10 (.mv (Aw false))]) (.seq (.reg [0,2,3,4,6,11,12] [(21,12)] [Am 17 0,An 18 17,AL' 14 19 18,AL' 5 20 6,Ao 21 (.call 1068 [0] [(.t 19),(.t 20)]),Am 16 21,Ax 22 16 0,Ax 23 16 1,Ao 11 (.alloc [A0,(.nl 2)]),As 2 11 22,Am 12 23] (some [(2,8),(3,8),(4,8)])) (.seq (.seq (Ar [0,2,3,4,6,11,25] [Am 24 12,At 25 24]) (.cond (.t 25) (.seq (Ar [0,10] [Ao 10 (.mv (Aw false))]) .ret) .skip)) (.seq (An1 [0,2,3,4,6,12,13] 30 12 [AL' 2 27 11,Am 28 2,Am 29 3,Ac3 55 30 27 28 29,Am 26 30,Ax 31 26 0,Ax 32 26 1,Ao 13 (.alloc [A0,(.nl 2)]),As 2 13 31,Am 12 32]) (.seq (.seq (Ar [0,2,3,4,6,13,34] [Am 33 12,At 34 33]) (.cond (.t 34) (.seq (Ar [0,10] [Ao 10 (.mv (Aw false))]) .ret) .skip)) (.seq (Aq [0,2,3,4,6] [Am 35 0,An 36 35,Af 37 36 8,Al 38 37,Af 39 6 0,Al 40 39,AL' 2 41 13,Ai 5 42 38 40,Af 43 42 2,As 2 43 41]) (.seq (.reg [0,3,4,14] [(52,14)] [Am 44 0,An 45 44,Af 46 45 13,Al 47 46,Af 48 6 3,Al 49 48,Am 50 2,Ab .add 51 49 50,Ac2 40 52 47 51,Am 14 52] (some [])) (.seq (.seq (Ar [0,3,4,14,54] [Am 53 14,Ae .geq 54 53 0]) (.cond (.t 54) (.seq (Ar [0,3,4,14,15] [Am 55 0,An 56 55,Af 57 56 13,Al 58 57,Am 59 14,Ai 25 60 58 59,Am 15 60]) (Ar [0] [Am 61 15,Am 62 15,Am 63 15,Am 64 4,Am 65 3,An 66 61,Af 67 66 23,As 1 67 64,An 68 62,Af 69 68 21,As 1 69 65,An 70 63,Af 71 70 20,⟨none,.st 1 (.t 71) (Av 1),none⟩])) .skip)) (.seq (Ar [0,10] [Ao 10 (.mv (Aw true))]) .ret))))))))
def pf469 : PF := ⟨[.s 10],[0],pb469⟩

def pb499 : PC :=
.seq (Ar [1,2] [Ao 1 (.box 25 (.t 0)),⟨some 2,.alloc [A0,A0,A0,(.nl 3),A0,A0,A0,A0,A0,A0,A0,A1,(.nl 7),A0,(.nl 1),A0,A0,(.nl 5),A0,A0,A0,A0,A0,(.v false (.bool false)),(.nl 2)],none⟩]) (.seq (Ar [1,2,3] [AL' 25 5 1,⟨some 3,.alloc [A0,A0,A0,(.nl 3),A0,A0,A0,A0,A0,A0,A0,A1,(.nl 7),A0,(.nl 1),A0,A0,(.nl 5),A0,A0,A0,A0,A0,(.v false (.bool false)),(.nl 2)],none⟩,As 25 3 5]) (.seq (Ar [1,2,3] [Ao 6 (.bsl 3 [] 0 []),Af 7 1 3,Al 8 7,Ao 9 (.app 3 32 (.t 6) (.t 8)),Af 10 3 3,As 1 10 9]) (.seq (Ar [1,2,3,4] [Af 11 1 5,AL' 10 12 11,Ac1 353 13 12,⟨some 4,.alloc [A0,A0,A0,A0,A0,A0,A1,(.nl 7),A0,(.nl 1)],none⟩,As 10 4 13]) (.seq (Ar [1,2,3] [AL' 10 14 4,Af 15 3 5,As 10 15 14]) (.seq (Ar [1,2,3] [Ao 16 (.bsl 5 [] 0 []),Af 17 1 17,Al 18 17,Ao 19 (.app 5 40 (.t 16) (.t 18)),Af 20 3 17,As 1 20 19]) (.seq (Ar [2,3] [Af 21 1 24,Al 22 21,Ac1 397 23 22,Af 24 3 24,As 1 24 23]) (.seq (Ar [2] [AL' 25 25 3,As 25 2 25]) .ret)))))))
def pf499 : PF := ⟨[.b 2 25 true],[],pb499⟩

def pl500_0 : PC :=
.seq (.seq (Ar [0,3,4,10] [Am 7 4,Am 8 0,Az 9 8,Ab .lss 10 7 9]) (Aj 10 0)) (.seq (.blk 1 (.seq (Ar [0,3,4,5] [Am 13 0,Am 14 4,Ai 25 15 13 14,AL' 25 16 15,Ac1 387 17 16,⟨some 5,.alloc [A0,A0,(.nl 3),A0,A0,A0,A0,A0,A0,A0,A1,(.nl 7),A0,(.nl 1),(.nl 2),A0,(.v false (.bool false)),A0,A0,A1,A0,A0,A0,A0,A0],none⟩,As 25 5 17]) (An1 [0,3,4] 21 3 [Am 18 3,AL' 25 19 5,⟨some 20,.bsl 25 [A2,A2,.sl 3 [],A2,A2,A2,A2,A2,A2,A2,A3,.sl 7 [],A2,.sl 1 [],.sl 2 [],A2,.bool false,A2,A2,A3,A2,A2,A2,A2,A2] 1 [(0,(.t 19))],none⟩,Ao 21 (.app 25 280 (.t 18) (.t 20)),Am 3 21]))) (Ar [0,3,4] [Am 11 4,Ae .add 12 11 1,Am 4 12]))
def pb500 : PC :=
.seq (Ar [0] [Ao 2 (.mv (.c (.nl 25)))]) (.seq (An1 [0,3] 6 3 [Ao 6 (.bsl 25 [] 0 []),Am 3 6]) (.seq (.seq (Ar [0,3,4] [Ak 4 0]) (.blk 0 (.loop pl500_0))) (.seq (Ar [2,3] [Am 22 3,Am 2 22]) .ret)))
def pf500 : PF := ⟨[.s 2],[],pb500⟩

def pb501 : PC :=
.seq (Ar [1,2] [Ao 1 (.box 25 (.t 0)),⟨some 2,.alloc [A0,A0,A0,(.nl 3),A0,A0,A0,A0,A0,A0,A0,A1,(.nl 7),A0,(.nl 1),A0,A0,(.nl 5),A0,A0,A0,A0,A0,(.v false (.bool false)),(.nl 2)],none⟩]) (.seq (.reg [1,2] [] [Af 3 1 3,Al 4 3,Ac1 76 5 4,Af 6 1 5,AL' 10 7 6,Ac1 532 8 7,Af 9 1 17,Al 10 9,Ac1 74 11 10,Af 12 1 24,Al 13 12,Ac1 533 14 13,Af 15 1 3,As 1 15 5,Af 16 1 5,As 10 16 8,Af 17 1 17,As 1 17 11,Af 18 1 24,As 1 18 14] (some [(2,4),(2,7),(5,7),(2,10),(5,10),(8,10)])) (.seq (Ar [2] [AL' 25 19 1,As 25 2 19]) .ret))
def pf501 : PF := ⟨[.b 2 25 true],[],pb501⟩

def pb502 : PC :=
.seq (Ar [1,2] [Ao 1 (.box 25 (.t 0)),⟨some 2,.alloc [A0,A0,(.nl 3),A0,A0,A0,A0,A0,A0,A0,A1,(.nl 7),A0,(.nl 1),(.nl 2),A0,(.v false (.bool false)),A0,A0,A1,A0,A0,A0,A0,A0],none⟩]) (.seq (.reg [1,2] [] [Af 3 1 2,Al 4 3,Ac1 76 5 4,Af 6 1 4,AL' 10 7 6,Ac1 532 8 7,Af 9 1 14,AL' 6 10 9,Ac1 534 11 10,Af 12 1 2,As 1 12 5,Af 13 1 4,As 10 13 8,Af 14 1 14,As 6 14 11] (some [(2,4),(2,7),(5,7)])) (.seq (Ar [2] [AL' 25 15 1,As 25 2 15]) .ret))
def pf502 : PF := ⟨[.b 2 25 true],[],pb502⟩

def pb532 : PC :=
.seq (Ar [1,2] [Ao 1 (.box 10 (.t 0)),⟨some 2,.alloc [A0,A0,A0,A0,A0,A0,A1,(.nl 7),A0,(.nl 1)],none⟩]) (.seq (.reg [2] [] [Af 3 1 0,Al 4 3,Af 5 1 1,AL' 7 6 5,Ac1 563 7 6,Af 8 1 8,Al 9 8,Af 10 1 9,Al 11 10,Ac1 72 12 11,⟨some 13,.build [A0,A0,A0,A0,A0,A0,A1,(.nl 7),A0,(.nl 1)] [(0,1,(.t 4)),(1,7,(.t 7)),(8,1,(.t 9)),(9,1,(.t 12))],none⟩,As 10 2 13] (some [(1,4),(4,6),(4,8),(1,9),(6,9)])) .ret)
def pf532 : PF := ⟨[.b 2 10 true],[],pb532⟩

def pl533_0 : PC :=
.seq (Ar [3,7,8,9,10] [Ab .lss 10 9 8]) (.seq (Aj 10 0) (.seq (.blk 1 (.seq (Ar [3,5,7,8,9] [Ai 2 11 7 9,AL' 2 12 11,Ao 5 (.alloc [A0,(.nl 3)]),As 2 5 12]) (An1 [3,7,8,9] 17 3 [Am 13 3,AL' 2 14 5,Ac1 75 15 14,Ao 16 (.bsl 2 [A2,.sl 3 []] 1 [(0,(.t 15))]),Ao 17 (.app 2 32 (.t 13) (.t 16)),Am 3 17]))) (Ar [3,7,8,9] [Ae .add 18 9 1,Am 9 18])))
def pb533 : PC :=
.seq (Ar [0] [Ao 2 (.mv (.c (.nl 2)))]) (.seq (An1 [0,3] 6 3 [Ao 6 (.bsl 2 [] 0 []),Am 3 6]) (.seq (.seq (Ar [3,7,8,9] [Am 7 0,Az 8 7,Ak 9 0]) (.blk 0 (.loop pl533_0))) (.seq (Ar [2,3] [Am 19 3,Am 2 19]) .ret)))
def pf533 : PF := ⟨[.s 2],[],pb533⟩

def pb534 : PC :=
.seq (Ar [1,2] [Ao 1 (.box 6 (.t 0)),⟨some 2,.alloc [(.nl 2),A0,(.v false (.bool false)),A0,A0,A1],none⟩]) (.seq (.reg [2] [] [Af 3 1 0,Al 4 3,Ac1 533 5 4,Af 6 1 1,Al 7 6,Af 8 1 2,Al 9 8,Af 10 1 3,AL' 3 11 10,⟨some 12,.build [(.nl 2),A0,(.v false (.bool false)),A0,A0,A1] [(0,1,(.t 5)),(1,1,(.t 7)),(2,1,(.t 9)),(3,3,(.t 11))],none⟩,As 6 2 12] (some [(2,4),(2,6),(2,8)])) .ret)
def pf534 : PF := ⟨[.b 2 6 true],[],pb534⟩

def pl563_0 : PC :=
.seq (Ar [1,2,3,16,17,18,19] [Ab .lss 19 18 17]) (.seq (Aj 19 0) (.seq (.blk 1 (.seq (Ar [1,2,3,5,16,17,18] [Ai 7 20 16 18,AL' 7 21 20,⟨some 5,.alloc [A0,A0,A0,A0,A0,A1,(.nl 7)],none⟩,As 7 5 21]) (.reg [1,2,3,16,17,18] [] [Af 22 3 6,Al 23 22,AL' 7 24 5,Ac1 563 25 24,⟨some 26,.bsl 7 [A2,A2,A2,A2,A2,A3,.sl 7 []] 1 [(0,(.t 25))],none⟩,Ao 27 (.app 7 80 (.t 23) (.t 26)),Af 28 3 6,As 1 28 27] (some [(1,3),(1,4)])))) (Ar [1,2,3,16,17,18] [Ae .add 29 18 1,Am 18 29])))
def pb563 : PC :=
.seq (Ar [1,2] [Ao 1 (.box 7 (.t 0)),⟨some 2,.alloc [A0,A0,A0,A0,A0,A1,(.nl 7)],none⟩]) (.seq (Ar [1,2,3] [Af 6 1 0,Al 7 6,Af 8 1 1,Al 9 8,Af 10 1 2,Al 11 10,Af 12 1 3,AL' 3 13 12,⟨some 14,.build [A0,A0,A0,A0,A0,A1,(.nl 7)] [(0,1,(.t 7)),(1,1,(.t 9)),(2,1,(.t 11)),(3,3,(.t 13))],none⟩,⟨some 3,.alloc [A0,A0,A0,A0,A0,A1,(.nl 7)],none⟩,As 7 3 14]) (.seq (.seq (Ar [1,2,3,16,17,18] [Af 15 1 6,Al 16 15,Az 17 16,Ak 18 0]) (.blk 0 (.loop pl563_0))) (.seq (Ar [2] [AL' 7 30 3,As 7 2 30]) .ret)))
def pf563 : PF := ⟨[.b 2 7 true],[],pb563⟩

def pb1068 : PC :=
.seq (Ar [0,2,3,4] [Ao 2 (.box 14 (.t 0)),Ao 3 (.box 5 (.t 1)),Ao 4 (.alloc [A0,(.nl 2)]),Ao 5 (.mv (Aw false))]) (.seq (.seq (Ar [0,2,3,4,14] [Af 6 3 2,Al 7 6,Ae .neq 8 7 1,Am 9 8,Ah 10 (.ld true 14 (.t 2)) 9,Ah 11 (.ld true 5 (.t 3)) 9,Ah 12 (.call 59 [] [(.t 10),(.t 11)]) 9,Ah 13 (.un .not (.t 12)) 9,Ap1 14 9 true 13]) (.cond (.t 14) (.seq (Ar [0,4,5] [Ao 15 (.build [A0,(.nl 2)] []),As 2 4 15,Ao 5 (.mv (Aw false))]) .ret) .skip)) (.seq (Ar [0,4,5] [Af 16 2 8,Al 17 16,Af 18 3 0,Al 19 18,Ai 5 20 17 19,Af 21 20 2,AL' 2 22 21,As 2 4 22,Ao 5 (.mv (Aw true))]) .ret))
def pf1068 : PF := ⟨[.b 4 2 true,.s 5],[0],pb1068⟩

def pb1417 : PC :=
.seq (Ar [2,3,4,5,6] [Ao 5 (.box 14 (.t 0)),Ao 6 (.box 5 (.t 1)),Ao 10 (.mv (Aw false))]) (.seq (Ar [2,3,4,5,6,11] [Ak 11 1048576]) (.seq (An1 [2,3,4,5,6,11] 24 11 [AL' 14 22 5,Am 23 11,Ac2 233 24 22 23,Am 11 24]) (.seq (.seq (Ar [2,3,4,5,6,26] [Am 25 11,Ae .lss 26 25 0]) (.cond (.t 26) (.seq (Ar [10] [Ao 10 (.mv (Aw true))]) .ret) .skip)) (.seq (.reg [2,3,4,5,6,12,13] [(35,13)] [AL' 14 28 5,Ac1 259 29 28,AL' 5 30 6,Ac1 248 31 30,Am 32 2,Am 33 3,Am 34 4,Ao 35 (.call 433 [] [(.t 29),(.t 31),(.t 32),(.t 33),(.t 34)]),Am 27 35,Ax 36 27 0,Ax 37 27 1,Ao 12 (.alloc [(.nl 1),A0,A0,A0,A0,A0,A0,(.nl 5),(.nl 5),(.nl 1),(.nl 3),(.nl 1),(.nl 25),(.nl 25)]),As 14 12 36,Am 13 37] (some [(1,2),(0,11),(1,11),(2,11),(3,11),(7,11)])) (.seq (Ar [2,3,4,5,6,12,13,14] [AL' 14 38 5,Ac1 259 39 38,Ao 14 (.alloc [(.nl 1),A0,A0,A0,A0,A0,A0,(.nl 5),(.nl 5),(.nl 1),(.nl 3),(.nl 1),(.nl 25),(.nl 25)]),As 14 14 39]) (.seq (.reg [2,3,4,5,6,12,13,14,15,16] [(47,16)] [AL' 14 41 14,AL' 5 42 6,Ac1 248 43 42,Am 44 2,Am 45 3,Am 46 4,Ao 47 (.call 1434 [] [(.t 41),(.t 43),(.t 44),(.t 45),(.t 46)]),Am 40 47,Ax 48 40 0,Ax 49 40 1,Ao 15 (.alloc [(.nl 1),A0,A0,A0,A0,A0,A0,(.nl 5),(.nl 5),(.nl 1),(.nl 3),(.nl 1),(.nl 25),(.nl 25)]),As 14 15 48,Am 16 49] (some [(0,2),(0,10),(1,10),(2,10),(6,10)])) (.seq (.seq (Ar [2,3,4,5,6,12,13,14,15,16,58] [AL' 14 50 15,AL' 14 51 12,Ac2 167 52 50 51,At 53 52,Am 54 53,Ah 55 (.mv (.t 16)) 54,Ah 56 (.mv (.t 13)) 54,Ah 57 (.eqb true (.t 55) (.t 56)) 54,Ap1 58 54 true 57]) (.cond (.t 58) (.seq (Ar [10] [Ao 10 (.mv (Aw false))]) .ret) .skip)) (.seq (.seq (.reg [2,3,4,5,6,12,13,14,15,16,63] [] [AL' 14 59 14,AL' 14 60 5,Ac1 259 61 60,Ac2 167 62 59 61,At 63 62] (some [(0,2)])) (.cond (.t 63) (.seq (Ar [10] [Ao 10 (.mv (Aw false))]) .ret) .skip)) (.seq (Ar [2,3,4,5,6,12,13,14,15,16,17] [Ak 17 1]) (.seq (An1 [2,3,4,5,6,12,13,15,16,17] 66 17 [AL' 14 64 14,Am 65 17,Ao 66 (.call 198 [0] [(.t 64),(.t 65)]),Am 17 66]) (.seq (.seq (Ar [2,3,4,5,6,12,13,15,79] [Am 67 17,Ae .lss 68 67 0,Am 69 68,Ah 70 (.ld true 14 (.t 15)) 69,Ah 71 (.ld true 14 (.t 12)) 69,Ah 72 (.call 167 [] [(.t 70),(.t 71)]) 69,Ah 73 (.un .not (.t 72)) 69,Ap1 74 69 true 73,Am 75 74,Ah 76 (.mv (.t 16)) 75,Ah 77 (.mv (.t 13)) 75,Ah 78 (.eqb true (.t 76) (.t 77)) 75,Ap1 79 75 true 78]) (.cond (.t 79) (.seq (Ar [10] [Ao 10 (.mv (Aw false))]) .ret) .skip)) (.seq (Ar [2,3,4,5,6,12,13,15,18] [Ak 18 1]) (.seq (An1 [2,3,4,5,6,12,13,15,18] 82 18 [AL' 14 80 15,Am 81 18,Ao 82 (.call 198 [0] [(.t 80),(.t 81)]),Am 18 82]) (.seq (Ar [2,3,4,5,6,12,13,15,18,19] [Ak 19 1]) (.seq (An1 [2,3,4,5,6,12,13,15,18,19] 85 19 [AL' 14 83 15,Am 84 19,Ac2 182 85 83 84,Am 19 85]) (.seq (.seq (Ar [2,3,4,5,6,12,13,15,18,19,87] [Am 86 19,Ae .lss 87 86 0]) (.cond (.t 87) (.seq (Ar [10] [Ao 10 (.mv (Aw false))]) .ret) .skip)) (.seq (.seq (Ar [2,3,4,5,6,12,13,15,18,90] [Am 88 19,Am 89 18,Ab .neq 90 88 89]) (.cond (.t 90) (.seq (Ar [10] [Ao 10 (.mv (Aw false))]) .ret) .skip)) (.seq (.reg [12,13,15,18,20,21] [(99,21)] [AL' 14 92 5,Ac1 259 93 92,AL' 5 94 6,Ac1 248 95 94,Am 96 2,Am 97 3,Am 98 4,Ao 99 (.call 1434 [] [(.t 93),(.t 95),(.t 96),(.t 97),(.t 98)]),Am 91 99,Ax 100 91 0,Ax 101 91 1,Ao 20 (.alloc [(.nl 1),A0,A0,A0,A0,A0,A0,(.nl 5),(.nl 5),(.nl 1),(.nl 3),(.nl 1),(.nl 25),(.nl 25)]),As 14 20 100,Am 21 101] (some [(1,2),(0,11),(1,11),(2,11),(3,11),(7,11)])) (.seq (.seq (Ar [15,18,110] [AL' 14 102 20,AL' 14 103 12,Ac2 167 104 102 103,At 105 104,Am 106 105,Ah 107 (.mv (.t 21)) 106,Ah 108 (.mv (.t 13)) 106,Ah 109 (.eqb true (.t 107) (.t 108)) 106,Ap1 110 106 true 109]) (.cond (.t 110) (.seq (Ar [10] [Ao 10 (.mv (Aw false))]) .ret) .skip)) (.seq (Ar [15,18,19] [Ak 19 1]) (.seq (An1 [18,19] 113 19 [AL' 14 111 15,Am 112 19,Ac2 182 113 111 112,Am 19 113]) (.seq (.seq (Ar [18,19,115] [Am 114 19,Ae .lss 115 114 0]) (.cond (.t 115) (.seq (Ar [10] [Ao 10 (.mv (Aw false))]) .ret) .skip)) (.seq (.seq (Ar [118] [Am 116 19,Am 117 18,Ab .neq 118 116 117]) (.cond (.t 118) (.seq (Ar [10] [Ao 10 (.mv (Aw false))]) .ret) .skip)) (.seq (Ar [10] [Ao 10 (.mv (Aw true))]) .ret))))))))))))))))))))))))
def pf1417 : PF := ⟨[.s 10],[],pb1417⟩

def pb1434 : PC :=
.seq (Ar [2,3,4,5,6,10] [Ao 5 (.box 14 (.t 0)),Ao 6 (.box 5 (.t 1)),Ao 10 (.alloc [(.nl 1),A0,A0,A0,A0,A0,A0,(.nl 5),(.nl 5),(.nl 1),(.nl 3),(.nl 1),(.nl 25),(.nl 25)]),Ao 11 (.mv (Aw false))]) (.seq (Ar [2,3,4,6,10,12] [AL' 14 14 5,Ac1 466 15 14,Ao 12 (.alloc [(.nl 1),A0,A0,A0,A0,A0,A0,(.nl 5),(.nl 5),(.nl 1),(.nl 3),(.nl 1),(.nl 25),(.nl 25)]),As 14 12 15]) (.seq (An1 [10,12,13] 20 13 [AL' 5 16 6,Am 17 2,Am 18 3,Am 19 4,Ao 20 (.call 1469 [] [(.t 12),(.t 16),(.t 17),(.t 18),(.t 19)]),Am 13 20]) (.seq (Ar [10,11,13] [AL' 14 21 12,Am 22 13,As 14 10 21,Am 11 22]) .ret)))
def pf1434 : PF := ⟨[.b 10 14 true,.s 11],[],pb1434⟩

def pb1469 : PC :=
.seq (Ar [0,2,3,4,6] [Ao 6 (.box 5 (.t 1)),Ao 10 (.mv (Aw false))]) (.seq (.reg [0,2,3,4,6,11,12] [(21,12)] [Am 17 0,An 18 17,AL' 14 19 18,AL' 5 20 6,Ac2 68 21 19 20,Am 16 21,Ax 22 16 0,Ax 23 16 1,Ao 11 (.alloc [A0,(.nl 2)]),As 2 11 22,Am 12 23] (some [(2,8),(3,8),(4,8)])) (.seq (.seq (Ar [0,2,3,4,6,11,25] [Am 24 12,At 25 24]) (.cond (.t 25) (.seq (Ar [0,10] [Ao 10 (.mv (Aw false))]) .ret) .skip)) (.seq (An1 [0,2,3,4,6,12,13] 30 12 [AL' 2 27 11,Am 28 2,Am 29 3,Ac3 55 30 27 28 29,Am 26 30,Ax 31 26 0,Ax 32 26 1,Ao 13 (.alloc [A0,(.nl 2)]),As 2 13 31,Am 12 32]) (.seq (.seq (Ar [0,2,3,4,6,13,34] [Am 33 12,At 34 33]) (.cond (.t 34) (.seq (Ar [0,10] [Ao 10 (.mv (Aw false))]) .ret) .skip)) (.seq (Aq [0,2,3,4,6] [Am 35 0,An 36 35,Af 37 36 8,Al 38 37,Af 39 6 0,Al 40 39,AL' 2 41 13,Ai 5 42 38 40,Af 43 42 2,As 2 43 41]) (.seq (.reg [0,3,4,14] [(52,14)] [Am 44 0,An 45 44,Af 46 45 13,Al 47 46,Af 48 6 3,Al 49 48,Am 50 2,Ab .add 51 49 50,Ac2 40 52 47 51,Am 14 52] (some [])) (.seq (.seq (Ar [0,3,4,14,54] [Am 53 14,Ae .geq 54 53 0]) (.cond (.t 54) (.seq (Ar [0,3,4,14,15] [Am 55 0,An 56 55,Af 57 56 13,Al 58 57,Am 59 14,Ai 25 60 58 59,Am 15 60]) (Ar [0] [Am 61 15,Am 62 15,Am 63 15,Am 64 4,Am 65 3,An 66 61,Af 67 66 23,As 1 67 64,An 68 62,Af 69 68 21,As 1 69 65,An 70 63,Af 71 70 20,⟨none,.st 1 (.t 71) (Av 1),none⟩])) .skip)) (.seq (Ar [0,10] [Ao 10 (.mv (Aw true))]) .ret))))))))
def pf1469 : PF := ⟨[.s 10],[],pb1469⟩

end Go.Proofs.YtcgekefbkccelaaGreat.OM
