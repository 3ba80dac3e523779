/- The texts of the functions, as the own machine runs them. -/
import Derived.Test.YtmlinnkaccgcgaaGreatOMAbb
set_option linter.all false
namespace Go.Proofs.YtmlinnkaccgcgaaGreat.OM
set_option maxRecDepth 100000

def pb1 : PC :=
.seq (Ar [0,1] [Ao 4 (.mv (Aw false))]) (.seq (Ar [4] [Am 5 0,Ao 6 (.cvs (.t 5)),Am 7 1,Ao 8 (.cvs (.t 7)),Ab .eql 9 6 8,Am 4 9]) .ret)
def pf1 : PF:=⟨[.s 4],[],pb1⟩

def pl12_0 : PC :=
.seq (Ar [0,5,6,7,8] [Ab .lss 8 7 6]) (.seq (Aj 8 0) (.seq (.blk 1 (.seq (Ar [0,4,5,6,7] [Ai 1 9 5 7,Al 10 9,Am 4 10]) (.seq (Ar [0,5,6,7,16] [Am 11 4,Ae .neq 12 11 1,Am 13 12,Ag 14 (.mv (.t 4)) 13,Ag 15 (.bin .neq (.t 14) (Av 2)) 13,Ap2 16 13 15 false]) (.cond (.t 16) (.seq (Ar [2] [Ao 2 (.mv (Aw false))]) .ret) .skip)))) (Ar [0,5,6,7] [Ae .add 17 7 1,Am 7 17])))
def pb12 : PC :=
.seq (Ar [0] [Ao 2 (.mv (Aw false))]) (.seq (.seq (Ar [0,5,6,7] [Am 5 0,Az 6 5,Ak 7 0]) (.blk 0 (.loop pl12_0))) (.seq (An1 [2] 20 2 [Am 18 0,Az 19 18,Ao 20 (.call 87 [] [(.t 19),(Av 1),(Av 3)]),Am 2 20]) .ret))
def pf12 : PF:=⟨[.s 2],[],pb12⟩

def pl19_0 : PC :=
.seq (Ar [0,12,13,14,15] [Ab .lss 15 14 13]) (.seq (Aj 15 0) (.seq (.blk 1 (.seq (Ar [0,5,6,12,13,14] [Am 16 14,Ai 3 17 12 14,AL' 3 18 17,⟨some 6,.alloc [A0,A0,A1],none⟩,Am 5 16,As 3 6 18]) (.seq (Aq [0,12,13,14,30] [AL' 3 19 6,Ac1 60 20 19,At 21 20,Am 22 21,Ah 23 (.fad (.t 6) 0) 22,Ah 24 (.ld false 1 (.t 23)) 22,Ah 25 (.mv (.t 0)) 22,Ah 26 (.mv (.t 5)) 22,Ah 27 (.iad 1 (.t 25) (.t 26)) 22,Ah 28 (.ld false 1 (.t 27)) 22,Ah 29 (.bin .neq (.t 24) (.t 28)) 22,Ap1 30 22 true 29]) (.cond (.t 30) (.seq (Ar [4] [Ao 4 (.mv (Aw false))]) .ret) .skip)))) (Ar [0,12,13,14] [Ae .add 31 14 1,Am 14 31])))
def pb19 : PC :=
.seq (Ar [0,1] [Ao 4 (.mv (Aw false))]) (.seq (.seq (Ar [0,1,11] [Am 7 1,Az 8 7,Am 9 0,Az 10 9,Ab .neq 11 8 10]) (.cond (.t 11) (.seq (Ar [4] [Ao 4 (.mv (Aw false))]) .ret) .skip)) (.seq (.seq (Ar [0,12,13,14] [Am 12 1,Az 13 12,Ak 14 0]) (.blk 0 (.loop pl19_0))) (.seq (Ar [4] [Ao 4 (.mv (Aw true))]) .ret)))
def pf19 : PF:=⟨[.s 4],[],pb19⟩

def pb59 : PC :=
.seq (Ar [2,3] [Ao 2 (.box 14 (.t 0)),Ao 3 (.box 5 (.t 1)),Ao 4 (.mv (Aw false))]) (.seq (.seq (Ar [2,3,16] [Af 6 3 0,Al 7 6,Ae .lss 8 7 0,Am 9 8,Ah 10 (.fad (.t 3) 0) 9,Ah 11 (.ld false 1 (.t 10)) 9,Ah 12 (.fad (.t 2) 8) 9,Ah 13 (.ld false 1 (.t 12)) 9,Ah 14 (.len (.t 13)) 9,Ah 15 (.bin .geq (.t 11) (.t 14)) 9,Ap1 16 9 true 15]) (.cond (.t 16) (.seq (Ar [4] [Ao 4 (.mv (Aw false))]) .ret) .skip)) (.seq (Ar [3,5] [Af 17 2 8,Al 18 17,Af 19 3 0,Al 20 19,Ai 5 21 18 20,AL' 5 22 21,Ao 5 (.alloc [A0,A0,A0,(.nl 2),(.nl 1)]),As 5 5 22]) (.seq (Ar [4] [Af 23 5 0,Al 24 23,Af 25 3 1,Al 26 25,Ab .eql 27 24 26,Am 28 27,Ag 29 (.fad (.t 5) 1) 28,Ag 30 (.ld false 1 (.t 29)) 28,Ag 31 (.fad (.t 3) 2) 28,Ag 32 (.ld false 1 (.t 31)) 28,Ag 33 (.bin .eql (.t 30) (.t 32)) 28,Ap2 34 28 33 false,Am 35 34,Ag 36 (.fad (.t 3) 2) 35,Ag 37 (.ld false 1 (.t 36)) 35,Ag 38 (.bin .neq (.t 37) (Av 1)) 35,Ag 39 (.mv (.t 38)) 35,Ah 40 (.fad (.t 5) 2) 39,Ah 41 (.fad (.t 40) 1) 39,Ah 42 (.ld false 1 (.t 41)) 39,Ah 43 (.len (.t 42)) 39,Ah 44 (.fad (.t 3) 4) 39,Ah 45 (.ld false 1 (.t 44)) 39,Ah 46 (.bin .eql (.t 43) (.t 45)) 39,Ag 47 (.pick (.t 39) (Aw true) (.t 46)) 35,Ap2 48 35 47 false,Am 4 48]) .ret)))
def pf59 : PF:=⟨[.s 4],[],pb59⟩

def pl60_0 : PC :=
.seq (.seq (Ar [1,3,24] [Am 20 3,Af 21 1 2,Al 22 21,Ao 23 (.lens (.t 22)),Ab .lss 24 20 23]) (Aj 24 1)) (.seq (.blk 2 (.seq (Ar [1,3,4] [Af 27 1 2,Al 28 27,Am 29 3,Ao 30 (.idx (.t 28) (.t 29)),Ao 31 (.bin .geq (.t 30) (.c (.v false (.int .u8 97)))),Am 32 31,Ag 33 (.fad (.t 1) 2) 32,Ag 34 (.ld false 1 (.t 33)) 32,Ag 35 (.mv (.t 3)) 32,Ag 36 (.idx (.t 34) (.t 35)) 32,Ag 37 (.bin .leq (.t 36) (.c (.v false (.int .u8 122)))) 32,Ap2 38 32 37 false,Am 4 38]) (.seq (Ar [1,3,4,5] [Af 39 1 2,Al 40 39,Am 41 3,Ao 42 (.idx (.t 40) (.t 41)),Ao 43 (.bin .geq (.t 42) (.c (.v false (.int .u8 48)))),Am 44 43,Ag 45 (.fad (.t 1) 2) 44,Ag 46 (.ld false 1 (.t 45)) 44,Ag 47 (.mv (.t 3)) 44,Ag 48 (.idx (.t 46) (.t 47)) 44,Ag 49 (.bin .leq (.t 48) (.c (.v false (.int .u8 57)))) 44,Ap2 50 44 49 false,Am 5 50]) (.seq (Ar [1,3,56] [Am 51 4,At 52 51,Am 53 52,Ag 54 (.mv (.t 5)) 53,Ag 55 (.un .not (.t 54)) 53,Ap2 56 53 55 false]) (.cond (.t 56) (.seq (Ar [2] [Ao 2 (.mv (Aw false))]) .ret) .skip))))) (Ar [1,3] [Am 25 3,Ae .add 26 25 1,Am 3 26]))
def pb60 : PC :=
.seq (Ar [1] [Ao 1 (.box 3 (.t 0)),Ao 2 (.mv (Aw false))]) (.seq (.seq (Ar [1,7] [Af 6 1 0,Al 7 6]) (.blk 0 (.seq (Ar [1,7,8] [Ae .eql 9 7 1,Am 8 9]) (.cond (.t 8) (.seq (An1 [2] 12 2 [Af 10 1 1,Al 11 10,Ac1 79 12 11,Am 13 12,Ag 14 (.fad (.t 1) 2) 13,Ag 15 (.ld false 1 (.t 14)) 13,⟨some 16,.bin .eql (.t 15) (.c A1),some (13,true)⟩,Ap2 17 13 16 false,Am 2 17]) .ret) (.seq (Ar [1,18] [Ae .eql 19 7 2,Am 18 19]) (.cond (.t 18) (.seq (.seq (Ar [1,3] [Ak 3 0]) (.blk 1 (.loop pl60_0))) (.seq (Ar [2] [Af 57 1 2,Al 58 57,Ao 59 (.lens (.t 58)),Ae .leq 60 59 6,Am 61 60,Ag 62 (.fad (.t 1) 1) 61,Ag 63 (.ld false 1 (.t 62)) 61,Ag 64 (.bin .eql (.t 63) (Av 0)) 61,Ap2 65 61 64 false,Am 2 65]) .ret)) .skip)))))) (.seq (Ar [2] [Ao 2 (.mv (Aw false))]) .ret))
def pf60 : PF:=⟨[.s 2],[],pb60⟩

def pb69 : PC :=
.seq (Ar [0] [Ao 2 (.mv (.c (.nl 1)))]) (.seq (An1 [2] 5 2 [Ao 3 (.bsl 1 [] 0 []),Am 4 0,Ao 5 (.app 1 1 (.t 3) (.t 4)),Am 2 5]) .ret)
def pf69 : PF:=⟨[.s 2],[],pb69⟩

def pb76 : PC :=
.seq (Ar [0] [Ao 2 (.mv (.c (.nl 3)))]) (.seq (An1 [2] 5 2 [Ao 3 (.bsl 3 [] 0 []),Am 4 0,Ao 5 (.app 3 32 (.t 3) (.t 4)),Am 2 5]) .ret)
def pf76 : PF:=⟨[.s 2],[],pb76⟩

def pb79 : PC :=
.seq (Ar [0] [Ao 2 (.mv (Aw false))]) (.seq (An1 [2] 4 2 [Am 3 0,Ao 4 (.call 87 [] [(.t 3),(Av (-1000000000)),(Av 1000000000)]),Am 2 4]) .ret)
def pf79 : PF:=⟨[.s 2],[],pb79⟩

def pb87 : PC :=
.seq (Ar [0,1,2] [Ao 6 (.mv (Aw false))]) (.seq (Ar [6] [Am 7 0,Am 8 1,Ab .geq 9 7 8,Am 10 9,Ag 11 (.mv (.t 0)) 10,Ag 12 (.mv (.t 2)) 10,Ag 13 (.bin .leq (.t 11) (.t 12)) 10,Ap2 14 10 13 false,Am 6 14]) .ret)
def pf87 : PF:=⟨[.s 6],[],pb87⟩

def pb142 : PC :=
.seq (Ar [2,3] [Ao 2 (.box 5 (.t 0)),Ao 3 (.box 5 (.t 1)),Ao 4 (.mv (Aw false))]) (.seq (.seq (Ar [2,3,9] [Af 5 2 0,Al 6 5,Af 7 3 0,Al 8 7,Ab .neq 9 6 8]) (.cond (.t 9) (.seq (Ar [4] [Ao 4 (.mv (Aw false))]) .ret) .skip)) (.seq (.seq (Ar [2,3,14] [Af 10 2 1,Al 11 10,Af 12 3 1,Al 13 12,Ab .neq 14 11 13]) (.cond (.t 14) (.seq (Ar [4] [Ao 4 (.mv (Aw false))]) .ret) .skip)) (.seq (.seq (Ar [2,3,20] [Af 15 2 2,AL' 2 16 15,Af 17 3 2,AL' 2 18 17,Ac2 145 19 16 18,At 20 19]) (.cond (.t 20) (.seq (Ar [4] [Ao 4 (.mv (Aw false))]) .ret) .skip)) (.seq (.seq (Ar [26] [Af 21 2 4,Al 22 21,Af 23 3 4,Al 24 23,Ac2 144 25 22 24,At 26 25]) (.cond (.t 26) (.seq (Ar [4] [Ao 4 (.mv (Aw false))]) .ret) .skip)) (.seq (Ar [4] [Ao 4 (.mv (Aw true))]) .ret)))))
def pf142 : PF:=⟨[.s 4],[],pb142⟩

def pl143_0 : PC :=
.seq (.seq (Ar [0,1,5,14] [Am 11 5,Am 12 0,Az 13 12,Ab .lss 14 11 13]) (Aj 14 0)) (.seq (.blk 1 (.seq (Aq [0,1,5,26] [Am 17 0,Am 18 5,Ai 5 19 17 18,AL' 5 20 19,Am 21 1,Am 22 5,Ai 5 23 21 22,AL' 5 24 23,Ac2 142 25 20 24,At 26 25]) (.cond (.t 26) (.seq (Ar [4] [Ao 4 (.mv (Aw false))]) .ret) .skip))) (Ar [0,1,5] [Am 15 5,Ae .add 16 15 1,Am 5 16]))
def pb143 : PC :=
.seq (Ar [0,1] [Ao 4 (.mv (Aw false))]) (.seq (.seq (Ar [0,1,10] [Am 6 0,Az 7 6,Am 8 1,Az 9 8,Ab .neq 10 7 9]) (.cond (.t 10) (.seq (Ar [4] [Ao 4 (.mv (Aw false))]) .ret) .skip)) (.seq (.seq (Ar [0,1,5] [Ak 5 0]) (.blk 0 (.loop pl143_0))) (.seq (Ar [4] [Ao 4 (.mv (Aw true))]) .ret)))
def pf143 : PF:=⟨[.s 4],[],pb143⟩

def pl144_0 : PC :=
.seq (.seq (Ar [0,1,5,14] [Am 11 5,Am 12 0,Az 13 12,Ab .lss 14 11 13]) (Aj 14 0)) (.seq (.blk 1 (.seq (Aq [0,1,5,25] [Am 17 0,Am 18 5,Ai 1 19 17 18,Al 20 19,Am 21 1,Am 22 5,Ai 1 23 21 22,Al 24 23,Ab .neq 25 20 24]) (.cond (.t 25) (.seq (Ar [4] [Ao 4 (.mv (Aw false))]) .ret) .skip))) (Ar [0,1,5] [Am 15 5,Ae .add 16 15 1,Am 5 16]))
def pb144 : PC :=
.seq (Ar [0,1] [Ao 4 (.mv (Aw false))]) (.seq (.seq (Ar [0,1,10] [Am 6 0,Az 7 6,Am 8 1,Az 9 8,Ab .neq 10 7 9]) (.cond (.t 10) (.seq (Ar [4] [Ao 4 (.mv (Aw false))]) .ret) .skip)) (.seq (.seq (Ar [0,1,5] [Ak 5 0]) (.blk 0 (.loop pl144_0))) (.seq (Ar [4] [Ao 4 (.mv (Aw true))]) .ret)))
def pf144 : PF:=⟨[.s 4],[],pb144⟩

def pb145 : PC :=
.seq (Ar [2,3] [Ao 2 (.box 2 (.t 0)),Ao 3 (.box 2 (.t 1)),Ao 4 (.mv (Aw false))]) (.seq (.seq (Ar [2,3,9] [Af 5 2 0,Al 6 5,Af 7 3 0,Al 8 7,Ab .neq 9 6 8]) (.cond (.t 9) (.seq (Ar [4] [Ao 4 (.mv (Aw false))]) .ret) .skip)) (.seq (.seq (Ar [15] [Af 10 2 1,Al 11 10,Af 12 3 1,Al 13 12,Ac2 162 14 11 13,At 15 14]) (.cond (.t 15) (.seq (Ar [4] [Ao 4 (.mv (Aw false))]) .ret) .skip)) (.seq (Ar [4] [Ao 4 (.mv (Aw true))]) .ret)))
def pf145 : PF:=⟨[.s 4],[],pb145⟩

def pb146 : PC :=
.seq (Ar [2,3] [Ao 2 (.box 3 (.t 0)),Ao 3 (.box 3 (.t 1)),Ao 4 (.mv (Aw false))]) (.seq (.seq (Ar [2,3,10] [Af 5 2 0,Al 6 5,Af 7 3 0,Al 8 7,Ac2 152 9 6 8,At 10 9]) (.cond (.t 10) (.seq (Ar [4] [Ao 4 (.mv (Aw false))]) .ret) .skip)) (.seq (.seq (Ar [2,3,15] [Af 11 2 1,Al 12 11,Af 13 3 1,Al 14 13,Ab .neq 15 12 14]) (.cond (.t 15) (.seq (Ar [4] [Ao 4 (.mv (Aw false))]) .ret) .skip)) (.seq (.seq (Ar [20] [Af 16 2 2,Al 17 16,Af 18 3 2,Al 19 18,Ab .neq 20 17 19]) (.cond (.t 20) (.seq (Ar [4] [Ao 4 (.mv (Aw false))]) .ret) .skip)) (.seq (Ar [4] [Ao 4 (.mv (Aw true))]) .ret))))
def pf146 : PF:=⟨[.s 4],[],pb146⟩

def pb147 : PC :=
.seq (Ar [2,3] [Ao 2 (.box 3 (.t 0)),Ao 3 (.box 3 (.t 1)),Ao 4 (.mv (Aw false))]) (.seq (.seq (Ar [2,3,9] [Af 5 2 0,Al 6 5,Af 7 3 0,Al 8 7,Ab .neq 9 6 8]) (.cond (.t 9) (.seq (Ar [4] [Ao 4 (.mv (Aw false))]) .ret) .skip)) (.seq (.seq (Ar [2,3,14] [Af 10 2 1,Al 11 10,Af 12 3 1,Al 13 12,Ab .neq 14 11 13]) (.cond (.t 14) (.seq (Ar [4] [Ao 4 (.mv (Aw false))]) .ret) .skip)) (.seq (.seq (Ar [19] [Af 15 2 2,Al 16 15,Af 17 3 2,Al 18 17,Ab .neq 19 16 18]) (.cond (.t 19) (.seq (Ar [4] [Ao 4 (.mv (Aw false))]) .ret) .skip)) (.seq (Ar [4] [Ao 4 (.mv (Aw true))]) .ret))))
def pf147 : PF:=⟨[.s 4],[],pb147⟩

def pl148_0 : PC :=
.seq (.seq (Ar [0,1,5,14] [Am 11 5,Am 12 0,Az 13 12,Ab .lss 14 11 13]) (Aj 14 0)) (.seq (.blk 1 (.seq (Aq [0,1,5,26] [Am 17 0,Am 18 5,Ai 3 19 17 18,AL' 3 20 19,Am 21 1,Am 22 5,Ai 3 23 21 22,AL' 3 24 23,Ac2 147 25 20 24,At 26 25]) (.cond (.t 26) (.seq (Ar [4] [Ao 4 (.mv (Aw false))]) .ret) .skip))) (Ar [0,1,5] [Am 15 5,Ae .add 16 15 1,Am 5 16]))
def pb148 : PC :=
.seq (Ar [0,1] [Ao 4 (.mv (Aw false))]) (.seq (.seq (Ar [0,1,10] [Am 6 0,Az 7 6,Am 8 1,Az 9 8,Ab .neq 10 7 9]) (.cond (.t 10) (.seq (Ar [4] [Ao 4 (.mv (Aw false))]) .ret) .skip)) (.seq (.seq (Ar [0,1,5] [Ak 5 0]) (.blk 0 (.loop pl148_0))) (.seq (Ar [4] [Ao 4 (.mv (Aw true))]) .ret)))
def pf148 : PF:=⟨[.s 4],[],pb148⟩

def pb149 : PC :=
.seq (Ar [2,3] [Ao 2 (.box 25 (.t 0)),Ao 3 (.box 25 (.t 1)),Ao 4 (.mv (Aw false))]) (.seq (.seq (Ar [2,3,9] [Af 5 2 0,Al 6 5,Af 7 3 0,Al 8 7,Ab .neq 9 6 8]) (.cond (.t 9) (.seq (Ar [4] [Ao 4 (.mv (Aw false))]) .ret) .skip)) (.seq (.seq (Ar [2,3,14] [Af 10 2 1,Al 11 10,Af 12 3 1,Al 13 12,Ab .neq 14 11 13]) (.cond (.t 14) (.seq (Ar [4] [Ao 4 (.mv (Aw false))]) .ret) .skip)) (.seq (.seq (Ar [2,3,20] [Af 15 2 2,Al 16 15,Af 17 3 2,Al 18 17,Ac2 166 19 16 18,At 20 19]) (.cond (.t 20) (.seq (Ar [4] [Ao 4 (.mv (Aw false))]) .ret) .skip)) (.seq (.seq (Ar [2,3,25] [Af 21 2 3,Al 22 21,Af 23 3 3,Al 24 23,Ab .neq 25 22 24]) (.cond (.t 25) (.seq (Ar [4] [Ao 4 (.mv (Aw false))]) .ret) .skip)) (.seq (.seq (Ar [2,3,31] [Af 26 2 4,AL' 10 27 26,Af 28 3 4,AL' 10 29 28,Ac2 155 30 27 29,At 31 30]) (.cond (.t 31) (.seq (Ar [4] [Ao 4 (.mv (Aw false))]) .ret) .skip)) (.seq (.seq (Ar [2,3,37] [Af 32 2 14,AL' 6 33 32,Af 34 3 14,AL' 6 35 34,Ac2 158 36 33 35,At 37 36]) (.cond (.t 37) (.seq (Ar [4] [Ao 4 (.mv (Aw false))]) .ret) .skip)) (.seq (.seq (Ar [2,3,42] [Af 38 2 20,Al 39 38,Af 40 3 20,Al 41 40,Ab .neq 42 39 41]) (.cond (.t 42) (.seq (Ar [4] [Ao 4 (.mv (Aw false))]) .ret) .skip)) (.seq (.seq (Ar [2,3,47] [Af 43 2 21,Al 44 43,Af 45 3 21,Al 46 45,Ab .neq 47 44 46]) (.cond (.t 47) (.seq (Ar [4] [Ao 4 (.mv (Aw false))]) .ret) .skip)) (.seq (.seq (Ar [2,3,52] [Af 48 2 22,Al 49 48,Af 50 3 22,Al 51 50,Ab .neq 52 49 51]) (.cond (.t 52) (.seq (Ar [4] [Ao 4 (.mv (Aw false))]) .ret) .skip)) (.seq (.seq (Ar [2,3,57] [Af 53 2 23,Al 54 53,Af 55 3 23,Al 56 55,Ab .neq 57 54 56]) (.cond (.t 57) (.seq (Ar [4] [Ao 4 (.mv (Aw false))]) .ret) .skip)) (.seq (.seq (Ar [62] [Af 58 2 24,Al 59 58,Af 60 3 24,Al 61 60,Ab .neq 62 59 61]) (.cond (.t 62) (.seq (Ar [4] [Ao 4 (.mv (Aw false))]) .ret) .skip)) (.seq (Ar [4] [Ao 4 (.mv (Aw true))]) .ret))))))))))))
def pf149 : PF:=⟨[.s 4],[],pb149⟩

def pl150_0 : PC :=
.seq (.seq (Ar [0,1,5,14] [Am 11 5,Am 12 0,Az 13 12,Ab .lss 14 11 13]) (Aj 14 0)) (.seq (.blk 1 (.seq (Aq [0,1,5,26] [Am 17 0,Am 18 5,Ai 25 19 17 18,AL' 25 20 19,Am 21 1,Am 22 5,Ai 25 23 21 22,AL' 25 24 23,Ac2 149 25 20 24,At 26 25]) (.cond (.t 26) (.seq (Ar [4] [Ao 4 (.mv (Aw false))]) .ret) .skip))) (Ar [0,1,5] [Am 15 5,Ae .add 16 15 1,Am 5 16]))
def pb150 : PC :=
.seq (Ar [0,1] [Ao 4 (.mv (Aw false))]) (.seq (.seq (Ar [0,1,10] [Am 6 0,Az 7 6,Am 8 1,Az 9 8,Ab .neq 10 7 9]) (.cond (.t 10) (.seq (Ar [4] [Ao 4 (.mv (Aw false))]) .ret) .skip)) (.seq (.seq (Ar [0,1,5] [Ak 5 0]) (.blk 0 (.loop pl150_0))) (.seq (Ar [4] [Ao 4 (.mv (Aw true))]) .ret)))
def pf150 : PF:=⟨[.s 4],[],pb150⟩

def pb151 : PC :=
.seq (Ar [2,3] [Ao 2 (.box 2 (.t 0)),Ao 3 (.box 2 (.t 1)),Ao 4 (.mv (Aw false))]) (.seq (.seq (Ar [2,3,9] [Af 5 2 0,Al 6 5,Af 7 3 0,Al 8 7,Ab .neq 9 6 8]) (.cond (.t 9) (.seq (Ar [4] [Ao 4 (.mv (Aw false))]) .ret) .skip)) (.seq (.seq (Ar [15] [Af 10 2 1,Al 11 10,Af 12 3 1,Al 13 12,Ac2 157 14 11 13,At 15 14]) (.cond (.t 15) (.seq (Ar [4] [Ao 4 (.mv (Aw false))]) .ret) .skip)) (.seq (Ar [4] [Ao 4 (.mv (Aw true))]) .ret)))
def pf151 : PF:=⟨[.s 4],[],pb151⟩

def pl152_0 : PC :=
.seq (.seq (Ar [0,1,5,14] [Am 11 5,Am 12 0,Az 13 12,Ab .lss 14 11 13]) (Aj 14 0)) (.seq (.blk 1 (.seq (Aq [0,1,5,25] [Am 17 0,Am 18 5,Ai 1 19 17 18,Al 20 19,Am 21 1,Am 22 5,Ai 1 23 21 22,Al 24 23,Ab .neq 25 20 24]) (.cond (.t 25) (.seq (Ar [4] [Ao 4 (.mv (Aw false))]) .ret) .skip))) (Ar [0,1,5] [Am 15 5,Ae .add 16 15 1,Am 5 16]))
def pb152 : PC :=
.seq (Ar [0,1] [Ao 4 (.mv (Aw false))]) (.seq (.seq (Ar [0,1,10] [Am 6 0,Az 7 6,Am 8 1,Az 9 8,Ab .neq 10 7 9]) (.cond (.t 10) (.seq (Ar [4] [Ao 4 (.mv (Aw false))]) .ret) .skip)) (.seq (.seq (Ar [0,1,5] [Ak 5 0]) (.blk 0 (.loop pl152_0))) (.seq (Ar [4] [Ao 4 (.mv (Aw true))]) .ret)))
def pf152 : PF:=⟨[.s 4],[],pb152⟩

def pb153 : PC :=
.seq (Ar [2,3] [Ao 2 (.box 7 (.t 0)),Ao 3 (.box 7 (.t 1)),Ao 4 (.mv (Aw false))]) (.seq (.seq (Ar [2,3,9] [Af 5 2 0,Al 6 5,Af 7 3 0,Al 8 7,Ab .neq 9 6 8]) (.cond (.t 9) (.seq (Ar [4] [Ao 4 (.mv (Aw false))]) .ret) .skip)) (.seq (.seq (Ar [2,3,14] [Af 10 2 1,Al 11 10,Af 12 3 1,Al 13 12,Ab .neq 14 11 13]) (.cond (.t 14) (.seq (Ar [4] [Ao 4 (.mv (Aw false))]) .ret) .skip)) (.seq (.seq (Ar [2,3,19] [Af 15 2 2,Al 16 15,Af 17 3 2,Al 18 17,Ab .neq 19 16 18]) (.cond (.t 19) (.seq (Ar [4] [Ao 4 (.mv (Aw false))]) .ret) .skip)) (.seq (.seq (Ar [2,3,25] [Af 20 2 3,AL' 3 21 20,Af 22 3 3,AL' 3 23 22,Ac2 165 24 21 23,At 25 24]) (.cond (.t 25) (.seq (Ar [4] [Ao 4 (.mv (Aw false))]) .ret) .skip)) (.seq (.seq (Ar [31] [Af 26 2 6,Al 27 26,Af 28 3 6,Al 29 28,Ac2 154 30 27 29,At 31 30]) (.cond (.t 31) (.seq (Ar [4] [Ao 4 (.mv (Aw false))]) .ret) .skip)) (.seq (Ar [4] [Ao 4 (.mv (Aw true))]) .ret))))))
def pf153 : PF:=⟨[.s 4],[],pb153⟩

def pl154_0 : PC :=
.seq (.seq (Ar [0,1,5,14] [Am 11 5,Am 12 0,Az 13 12,Ab .lss 14 11 13]) (Aj 14 0)) (.seq (.blk 1 (.seq (Aq [0,1,5,26] [Am 17 0,Am 18 5,Ai 7 19 17 18,AL' 7 20 19,Am 21 1,Am 22 5,Ai 7 23 21 22,AL' 7 24 23,Ac2 153 25 20 24,At 26 25]) (.cond (.t 26) (.seq (Ar [4] [Ao 4 (.mv (Aw false))]) .ret) .skip))) (Ar [0,1,5] [Am 15 5,Ae .add 16 15 1,Am 5 16]))
def pb154 : PC :=
.seq (Ar [0,1] [Ao 4 (.mv (Aw false))]) (.seq (.seq (Ar [0,1,10] [Am 6 0,Az 7 6,Am 8 1,Az 9 8,Ab .neq 10 7 9]) (.cond (.t 10) (.seq (Ar [4] [Ao 4 (.mv (Aw false))]) .ret) .skip)) (.seq (.seq (Ar [0,1,5] [Ak 5 0]) (.blk 0 (.loop pl154_0))) (.seq (Ar [4] [Ao 4 (.mv (Aw true))]) .ret)))
def pf154 : PF:=⟨[.s 4],[],pb154⟩

def pb155 : PC :=
.seq (Ar [2,3] [Ao 2 (.box 10 (.t 0)),Ao 3 (.box 10 (.t 1)),Ao 4 (.mv (Aw false))]) (.seq (.seq (Ar [2,3,9] [Af 5 2 0,Al 6 5,Af 7 3 0,Al 8 7,Ab .neq 9 6 8]) (.cond (.t 9) (.seq (Ar [4] [Ao 4 (.mv (Aw false))]) .ret) .skip)) (.seq (.seq (Ar [2,3,15] [Af 10 2 1,AL' 7 11 10,Af 12 3 1,AL' 7 13 12,Ac2 153 14 11 13,At 15 14]) (.cond (.t 15) (.seq (Ar [4] [Ao 4 (.mv (Aw false))]) .ret) .skip)) (.seq (.seq (Ar [2,3,20] [Af 16 2 8,Al 17 16,Af 18 3 8,Al 19 18,Ab .neq 20 17 19]) (.cond (.t 20) (.seq (Ar [4] [Ao 4 (.mv (Aw false))]) .ret) .skip)) (.seq (.seq (Ar [26] [Af 21 2 9,Al 22 21,Af 23 3 9,Al 24 23,Ac2 152 25 22 24,At 26 25]) (.cond (.t 26) (.seq (Ar [4] [Ao 4 (.mv (Aw false))]) .ret) .skip)) (.seq (Ar [4] [Ao 4 (.mv (Aw true))]) .ret)))))
def pf155 : PF:=⟨[.s 4],[],pb155⟩

def pb156 : PC :=
.seq (Ar [2,3] [Ao 2 (.box 5 (.t 0)),Ao 3 (.box 5 (.t 1)),Ao 4 (.mv (Aw false))]) (.seq (.seq (Ar [2,3,9] [Af 5 2 0,Al 6 5,Af 7 3 0,Al 8 7,Ab .neq 9 6 8]) (.cond (.t 9) (.seq (Ar [4] [Ao 4 (.mv (Aw false))]) .ret) .skip)) (.seq (.seq (Ar [2,3,14] [Af 10 2 1,Al 11 10,Af 12 3 1,Al 13 12,Ab .neq 14 11 13]) (.cond (.t 14) (.seq (Ar [4] [Ao 4 (.mv (Aw false))]) .ret) .skip)) (.seq (.seq (Ar [2,3,19] [Af 15 2 2,Al 16 15,Af 17 3 2,Al 18 17,Ab .neq 19 16 18]) (.cond (.t 19) (.seq (Ar [4] [Ao 4 (.mv (Aw false))]) .ret) .skip)) (.seq (.seq (Ar [2,3,24] [Af 20 2 3,Al 21 20,Af 22 3 3,Al 23 22,Ab .neq 24 21 23]) (.cond (.t 24) (.seq (Ar [4] [Ao 4 (.mv (Aw false))]) .ret) .skip)) (.seq (.seq (Ar [29] [Af 25 2 4,Al 26 25,Af 27 3 4,Al 28 27,Ab .neq 29 26 28]) (.cond (.t 29) (.seq (Ar [4] [Ao 4 (.mv (Aw false))]) .ret) .skip)) (.seq (Ar [4] [Ao 4 (.mv (Aw true))]) .ret))))))
def pf156 : PF:=⟨[.s 4],[],pb156⟩

def pl157_0 : PC :=
.seq (.seq (Ar [0,1,5,14] [Am 11 5,Am 12 0,Az 13 12,Ab .lss 14 11 13]) (Aj 14 0)) (.seq (.blk 1 (.seq (Aq [0,1,5,26] [Am 17 0,Am 18 5,Ai 5 19 17 18,AL' 5 20 19,Am 21 1,Am 22 5,Ai 5 23 21 22,AL' 5 24 23,Ac2 156 25 20 24,At 26 25]) (.cond (.t 26) (.seq (Ar [4] [Ao 4 (.mv (Aw false))]) .ret) .skip))) (Ar [0,1,5] [Am 15 5,Ae .add 16 15 1,Am 5 16]))
def pb157 : PC :=
.seq (Ar [0,1] [Ao 4 (.mv (Aw false))]) (.seq (.seq (Ar [0,1,10] [Am 6 0,Az 7 6,Am 8 1,Az 9 8,Ab .neq 10 7 9]) (.cond (.t 10) (.seq (Ar [4] [Ao 4 (.mv (Aw false))]) .ret) .skip)) (.seq (.seq (Ar [0,1,5] [Ak 5 0]) (.blk 0 (.loop pl157_0))) (.seq (Ar [4] [Ao 4 (.mv (Aw true))]) .ret)))
def pf157 : PF:=⟨[.s 4],[],pb157⟩

def pb158 : PC :=
.seq (Ar [2,3] [Ao 2 (.box 6 (.t 0)),Ao 3 (.box 6 (.t 1)),Ao 4 (.mv (Aw false))]) (.seq (.seq (Ar [2,3,10] [Af 5 2 0,Al 6 5,Af 7 3 0,Al 8 7,Ac2 160 9 6 8,At 10 9]) (.cond (.t 10) (.seq (Ar [4] [Ao 4 (.mv (Aw false))]) .ret) .skip)) (.seq (.seq (Ar [2,3,15] [Af 11 2 1,Al 12 11,Af 13 3 1,Al 14 13,Ab .neq 15 12 14]) (.cond (.t 15) (.seq (Ar [4] [Ao 4 (.mv (Aw false))]) .ret) .skip)) (.seq (.seq (Ar [2,3,20] [Af 16 2 2,Al 17 16,Af 18 3 2,Al 19 18,Ao 20 (.eqb true (.t 17) (.t 19))]) (.cond (.t 20) (.seq (Ar [4] [Ao 4 (.mv (Aw false))]) .ret) .skip)) (.seq (.seq (Ar [26] [Af 21 2 3,AL' 3 22 21,Af 23 3 3,AL' 3 24 23,Ac2 165 25 22 24,At 26 25]) (.cond (.t 26) (.seq (Ar [4] [Ao 4 (.mv (Aw false))]) .ret) .skip)) (.seq (Ar [4] [Ao 4 (.mv (Aw true))]) .ret)))))
def pf158 : PF:=⟨[.s 4],[],pb158⟩

def pb159 : PC :=
.seq (Ar [2,3] [Ao 2 (.box 2 (.t 0)),Ao 3 (.box 2 (.t 1)),Ao 4 (.mv (Aw false))]) (.seq (.seq (Ar [2,3,9] [Af 5 2 0,Al 6 5,Af 7 3 0,Al 8 7,Ab .neq 9 6 8]) (.cond (.t 9) (.seq (Ar [4] [Ao 4 (.mv (Aw false))]) .ret) .skip)) (.seq (.seq (Ar [15] [Af 10 2 1,Al 11 10,Af 12 3 1,Al 13 12,Ac2 166 14 11 13,At 15 14]) (.cond (.t 15) (.seq (Ar [4] [Ao 4 (.mv (Aw false))]) .ret) .skip)) (.seq (Ar [4] [Ao 4 (.mv (Aw true))]) .ret)))
def pf159 : PF:=⟨[.s 4],[],pb159⟩

def pl160_0 : PC :=
.seq (.seq (Ar [0,1,5,14] [Am 11 5,Am 12 0,Az 13 12,Ab .lss 14 11 13]) (Aj 14 0)) (.seq (.blk 1 (.seq (Aq [0,1,5,26] [Am 17 0,Am 18 5,Ai 2 19 17 18,AL' 2 20 19,Am 21 1,Am 22 5,Ai 2 23 21 22,AL' 2 24 23,Ac2 159 25 20 24,At 26 25]) (.cond (.t 26) (.seq (Ar [4] [Ao 4 (.mv (Aw false))]) .ret) .skip))) (Ar [0,1,5] [Am 15 5,Ae .add 16 15 1,Am 5 16]))
def pb160 : PC :=
.seq (Ar [0,1] [Ao 4 (.mv (Aw false))]) (.seq (.seq (Ar [0,1,10] [Am 6 0,Az 7 6,Am 8 1,Az 9 8,Ab .neq 10 7 9]) (.cond (.t 10) (.seq (Ar [4] [Ao 4 (.mv (Aw false))]) .ret) .skip)) (.seq (.seq (Ar [0,1,5] [Ak 5 0]) (.blk 0 (.loop pl160_0))) (.seq (Ar [4] [Ao 4 (.mv (Aw true))]) .ret)))
def pf160 : PF:=⟨[.s 4],[],pb160⟩

def pb161 : PC :=
.seq (Ar [2,3] [Ao 2 (.box 2 (.t 0)),Ao 3 (.box 2 (.t 1)),Ao 4 (.mv (Aw false))]) (.seq (.seq (Ar [2,3,9] [Af 5 2 0,Al 6 5,Af 7 3 0,Al 8 7,Ab .neq 9 6 8]) (.cond (.t 9) (.seq (Ar [4] [Ao 4 (.mv (Aw false))]) .ret) .skip)) (.seq (.seq (Ar [15] [Af 10 2 1,Al 11 10,Af 12 3 1,Al 13 12,Ac2 166 14 11 13,At 15 14]) (.cond (.t 15) (.seq (Ar [4] [Ao 4 (.mv (Aw false))]) .ret) .skip)) (.seq (Ar [4] [Ao 4 (.mv (Aw true))]) .ret)))
def pf161 : PF:=⟨[.s 4],[],pb161⟩

def pl162_0 : PC :=
.seq (.seq (Ar [0,1,5,14] [Am 11 5,Am 12 0,Az 13 12,Ab .lss 14 11 13]) (Aj 14 0)) (.seq (.blk 1 (.seq (Aq [0,1,5,26] [Am 17 0,Am 18 5,Ai 2 19 17 18,AL' 2 20 19,Am 21 1,Am 22 5,Ai 2 23 21 22,AL' 2 24 23,Ac2 161 25 20 24,At 26 25]) (.cond (.t 26) (.seq (Ar [4] [Ao 4 (.mv (Aw false))]) .ret) .skip))) (Ar [0,1,5] [Am 15 5,Ae .add 16 15 1,Am 5 16]))
def pb162 : PC :=
.seq (Ar [0,1] [Ao 4 (.mv (Aw false))]) (.seq (.seq (Ar [0,1,10] [Am 6 0,Az 7 6,Am 8 1,Az 9 8,Ab .neq 10 7 9]) (.cond (.t 10) (.seq (Ar [4] [Ao 4 (.mv (Aw false))]) .ret) .skip)) (.seq (.seq (Ar [0,1,5] [Ak 5 0]) (.blk 0 (.loop pl162_0))) (.seq (Ar [4] [Ao 4 (.mv (Aw true))]) .ret)))
def pf162 : PF:=⟨[.s 4],[],pb162⟩

def pb163 : PC :=
.seq (Ar [2,3] [Ao 2 (.box 25 (.t 0)),Ao 3 (.box 25 (.t 1)),Ao 4 (.mv (Aw false))]) (.seq (.seq (Ar [2,3,9] [Af 5 2 0,Al 6 5,Af 7 3 0,Al 8 7,Ab .neq 9 6 8]) (.cond (.t 9) (.seq (Ar [4] [Ao 4 (.mv (Aw false))]) .ret) .skip)) (.seq (.seq (Ar [2,3,14] [Af 10 2 1,Al 11 10,Af 12 3 1,Al 13 12,Ab .neq 14 11 13]) (.cond (.t 14) (.seq (Ar [4] [Ao 4 (.mv (Aw false))]) .ret) .skip)) (.seq (.seq (Ar [2,3,19] [Af 15 2 2,Al 16 15,Af 17 3 2,Al 18 17,Ab .neq 19 16 18]) (.cond (.t 19) (.seq (Ar [4] [Ao 4 (.mv (Aw false))]) .ret) .skip)) (.seq (.seq (Ar [2,3,25] [Af 20 2 3,Al 21 20,Af 22 3 3,Al 23 22,Ac2 166 24 21 23,At 25 24]) (.cond (.t 25) (.seq (Ar [4] [Ao 4 (.mv (Aw false))]) .ret) .skip)) (.seq (.seq (Ar [2,3,30] [Af 26 2 4,Al 27 26,Af 28 3 4,Al 29 28,Ab .neq 30 27 29]) (.cond (.t 30) (.seq (Ar [4] [Ao 4 (.mv (Aw false))]) .ret) .skip)) (.seq (.seq (Ar [2,3,36] [Af 31 2 5,AL' 10 32 31,Af 33 3 5,AL' 10 34 33,Ac2 155 35 32 34,At 36 35]) (.cond (.t 36) (.seq (Ar [4] [Ao 4 (.mv (Aw false))]) .ret) .skip)) (.seq (.seq (Ar [2,3,41] [Af 37 2 15,Al 38 37,Af 39 3 15,Al 40 39,Ab .neq 41 38 40]) (.cond (.t 41) (.seq (Ar [4] [Ao 4 (.mv (Aw false))]) .ret) .skip)) (.seq (.seq (Ar [2,3,46] [Af 42 2 16,Al 43 42,Af 44 3 16,Al 45 44,Ab .neq 46 43 45]) (.cond (.t 46) (.seq (Ar [4] [Ao 4 (.mv (Aw false))]) .ret) .skip)) (.seq (.seq (Ar [2,3,52] [Af 47 2 17,Al 48 47,Af 49 3 17,Al 50 49,Ac2 157 51 48 50,At 52 51]) (.cond (.t 52) (.seq (Ar [4] [Ao 4 (.mv (Aw false))]) .ret) .skip)) (.seq (.seq (Ar [2,3,57] [Af 53 2 18,Al 54 53,Af 55 3 18,Al 56 55,Ab .neq 57 54 56]) (.cond (.t 57) (.seq (Ar [4] [Ao 4 (.mv (Aw false))]) .ret) .skip)) (.seq (.seq (Ar [2,3,62] [Af 58 2 19,Al 59 58,Af 60 3 19,Al 61 60,Ab .neq 62 59 61]) (.cond (.t 62) (.seq (Ar [4] [Ao 4 (.mv (Aw false))]) .ret) .skip)) (.seq (.seq (Ar [2,3,67] [Af 63 2 20,Al 64 63,Af 65 3 20,Al 66 65,Ab .neq 67 64 66]) (.cond (.t 67) (.seq (Ar [4] [Ao 4 (.mv (Aw false))]) .ret) .skip)) (.seq (.seq (Ar [2,3,72] [Af 68 2 21,Al 69 68,Af 70 3 21,Al 71 70,Ab .neq 72 69 71]) (.cond (.t 72) (.seq (Ar [4] [Ao 4 (.mv (Aw false))]) .ret) .skip)) (.seq (.seq (Ar [2,3,77] [Af 73 2 22,Al 74 73,Af 75 3 22,Al 76 75,Ab .neq 77 74 76]) (.cond (.t 77) (.seq (Ar [4] [Ao 4 (.mv (Aw false))]) .ret) .skip)) (.seq (.seq (Ar [2,3,82] [Af 78 2 23,Al 79 78,Af 80 3 23,Al 81 80,Ao 82 (.eqb true (.t 79) (.t 81))]) (.cond (.t 82) (.seq (Ar [4] [Ao 4 (.mv (Aw false))]) .ret) .skip)) (.seq (.seq (Ar [88] [Af 83 2 24,Al 84 83,Af 85 3 24,Al 86 85,Ac2 160 87 84 86,At 88 87]) (.cond (.t 88) (.seq (Ar [4] [Ao 4 (.mv (Aw false))]) .ret) .skip)) (.seq (Ar [4] [Ao 4 (.mv (Aw true))]) .ret)))))))))))))))))
def pf163 : PF:=⟨[.s 4],[],pb163⟩

def pl164_0 : PC :=
.seq (.seq (Ar [0,1,5,14] [Am 11 5,Am 12 0,Az 13 12,Ab .lss 14 11 13]) (Aj 14 0)) (.seq (.blk 1 (.seq (Aq [0,1,5,26] [Am 17 0,Am 18 5,Ai 25 19 17 18,AL' 25 20 19,Am 21 1,Am 22 5,Ai 25 23 21 22,AL' 25 24 23,Ac2 163 25 20 24,At 26 25]) (.cond (.t 26) (.seq (Ar [4] [Ao 4 (.mv (Aw false))]) .ret) .skip))) (Ar [0,1,5] [Am 15 5,Ae .add 16 15 1,Am 5 16]))
def pb164 : PC :=
.seq (Ar [0,1] [Ao 4 (.mv (Aw false))]) (.seq (.seq (Ar [0,1,10] [Am 6 0,Az 7 6,Am 8 1,Az 9 8,Ab .neq 10 7 9]) (.cond (.t 10) (.seq (Ar [4] [Ao 4 (.mv (Aw false))]) .ret) .skip)) (.seq (.seq (Ar [0,1,5] [Ak 5 0]) (.blk 0 (.loop pl164_0))) (.seq (Ar [4] [Ao 4 (.mv (Aw true))]) .ret)))
def pf164 : PF:=⟨[.s 4],[],pb164⟩

def pb165 : PC :=
.seq (Ar [2,3] [Ao 2 (.box 3 (.t 0)),Ao 3 (.box 3 (.t 1)),Ao 4 (.mv (Aw false))]) (.seq (.seq (Ar [2,3,9] [Af 5 2 0,Al 6 5,Af 7 3 0,Al 8 7,Ab .neq 9 6 8]) (.cond (.t 9) (.seq (Ar [4] [Ao 4 (.mv (Aw false))]) .ret) .skip)) (.seq (.seq (Ar [2,3,14] [Af 10 2 1,Al 11 10,Af 12 3 1,Al 13 12,Ab .neq 14 11 13]) (.cond (.t 14) (.seq (Ar [4] [Ao 4 (.mv (Aw false))]) .ret) .skip)) (.seq (.seq (Ar [19] [Af 15 2 2,Al 16 15,Af 17 3 2,Al 18 17,Ab .neq 19 16 18]) (.cond (.t 19) (.seq (Ar [4] [Ao 4 (.mv (Aw false))]) .ret) .skip)) (.seq (Ar [4] [Ao 4 (.mv (Aw true))]) .ret))))
def pf165 : PF:=⟨[.s 4],[],pb165⟩

def pl166_0 : PC :=
.seq (.seq (Ar [0,1,5,14] [Am 11 5,Am 12 0,Az 13 12,Ab .lss 14 11 13]) (Aj 14 0)) (.seq (.blk 1 (.seq (Aq [0,1,5,26] [Am 17 0,Am 18 5,Ai 3 19 17 18,AL' 3 20 19,Am 21 1,Am 22 5,Ai 3 23 21 22,AL' 3 24 23,Ac2 165 25 20 24,At 26 25]) (.cond (.t 26) (.seq (Ar [4] [Ao 4 (.mv (Aw false))]) .ret) .skip))) (Ar [0,1,5] [Am 15 5,Ae .add 16 15 1,Am 5 16]))
def pb166 : PC :=
.seq (Ar [0,1] [Ao 4 (.mv (Aw false))]) (.seq (.seq (Ar [0,1,10] [Am 6 0,Az 7 6,Am 8 1,Az 9 8,Ab .neq 10 7 9]) (.cond (.t 10) (.seq (Ar [4] [Ao 4 (.mv (Aw false))]) .ret) .skip)) (.seq (.seq (Ar [0,1,5] [Ak 5 0]) (.blk 0 (.loop pl166_0))) (.seq (Ar [4] [Ao 4 (.mv (Aw true))]) .ret)))
def pf166 : PF:=⟨[.s 4],[],pb166⟩

def pb167 : PC :=
.seq (Ar [2,3] [Ao 2 (.box 14 (.t 0)),Ao 3 (.box 14 (.t 1)),Ao 4 (.mv (Aw false))]) (.seq (.seq (Ar [2,3,10] [Af 5 2 0,AL' 3 6 5,Af 7 3 0,AL' 3 8 7,Ac2 146 9 6 8,At 10 9]) (.cond (.t 10) (.seq (Ar [4] [Ao 4 (.mv (Aw false))]) .ret) .skip)) (.seq (.seq (Ar [2,3,15] [Af 11 2 3,Al 12 11,Af 13 3 3,Al 14 13,Ab .neq 15 12 14]) (.cond (.t 15) (.seq (Ar [4] [Ao 4 (.mv (Aw false))]) .ret) .skip)) (.seq (.seq (Ar [2,3,20] [Af 16 2 4,Al 17 16,Af 18 3 4,Al 19 18,Ab .neq 20 17 19]) (.cond (.t 20) (.seq (Ar [4] [Ao 4 (.mv (Aw false))]) .ret) .skip)) (.seq (.seq (Ar [2,3,25] [Af 21 2 5,Al 22 21,Af 23 3 5,Al 24 23,Ab .neq 25 22 24]) (.cond (.t 25) (.seq (Ar [4] [Ao 4 (.mv (Aw false))]) .ret) .skip)) (.seq (.seq (Ar [2,3,31] [Af 26 2 6,AL' 2 27 26,Af 28 3 6,AL' 2 29 28,Ac2 151 30 27 29,At 31 30]) (.cond (.t 31) (.seq (Ar [4] [Ao 4 (.mv (Aw false))]) .ret) .skip)) (.seq (.seq (Ar [2,3,37] [Af 32 2 8,Al 33 32,Af 34 3 8,Al 35 34,Ac2 143 36 33 35,At 37 36]) (.cond (.t 37) (.seq (Ar [4] [Ao 4 (.mv (Aw false))]) .ret) .skip)) (.seq (.seq (Ar [2,3,43] [Af 38 2 9,Al 39 38,Af 40 3 9,Al 41 40,Ac2 152 42 39 41,At 43 42]) (.cond (.t 43) (.seq (Ar [4] [Ao 4 (.mv (Aw false))]) .ret) .skip)) (.seq (.seq (Ar [2,3,49] [Af 44 2 10,Al 45 44,Af 46 3 10,Al 47 46,Ac2 148 48 45 47,At 49 48]) (.cond (.t 49) (.seq (Ar [4] [Ao 4 (.mv (Aw false))]) .ret) .skip)) (.seq (.seq (Ar [2,3,55] [Af 50 2 11,Al 51 50,Af 52 3 11,Al 53 52,Ac2 152 54 51 53,At 55 54]) (.cond (.t 55) (.seq (Ar [4] [Ao 4 (.mv (Aw false))]) .ret) .skip)) (.seq (.seq (Ar [2,3,61] [Af 56 2 12,Al 57 56,Af 58 3 12,Al 59 58,Ac2 164 60 57 59,At 61 60]) (.cond (.t 61) (.seq (Ar [4] [Ao 4 (.mv (Aw false))]) .ret) .skip)) (.seq (.seq (Ar [67] [Af 62 2 13,Al 63 62,Af 64 3 13,Al 65 64,Ac2 150 66 63 65,At 67 66]) (.cond (.t 67) (.seq (Ar [4] [Ao 4 (.mv (Aw false))]) .ret) .skip)) (.seq (Ar [4] [Ao 4 (.mv (Aw true))]) .ret))))))))))))
def pf167 : PF:=⟨[.s 4],[],pb167⟩

def pb210 : PC :=
.seq (Ar [1,2] [Ao 2 (.box 5 (.t 0)),Ak 4 0]) (.seq (An1 [1,2] 8 1 [Af 5 2 2,AL' 2 6 5,Am 7 1,Ac2 213 8 6 7,Am 1 8]) (.seq (.seq (Ar [1,2,10] [Am 9 1,Ae .lss 10 9 0]) (.cond (.t 10) (.seq (Ar [4] [Ak 4 (-1)]) .ret) .skip)) (.seq (An1 [1] 14 1 [Af 11 2 4,Al 12 11,Am 13 1,Ac2 212 14 12 13,Am 1 14]) (.seq (.seq (Ar [1,16] [Am 15 1,Ae .lss 16 15 0]) (.cond (.t 16) (.seq (Ar [4] [Ak 4 (-1)]) .ret) .skip)) (.seq (Ar [1,4] [Am 17 1,Am 4 17]) .ret)))))
def pf210 : PF:=⟨[.s 4],[],pb210⟩

def pl211_0 : PC :=
.seq (.seq (Ar [0,1,5,15] [Am 12 5,Am 13 0,Az 14 13,Ab .lss 15 12 14]) (Aj 15 0)) (.seq (.blk 1 (.seq (An1 [0,1,5] 23 1 [Am 18 0,Am 19 5,Ai 5 20 18 19,AL' 5 21 20,Am 22 1,Ac2 210 23 21 22,Am 1 23]) (.seq (Ar [0,1,5,25] [Am 24 1,Ae .lss 25 24 0]) (.cond (.t 25) (.seq (Ar [4] [Ak 4 (-1)]) .ret) .skip)))) (Ar [0,1,5] [Am 16 5,Ae .add 17 16 1,Am 5 17]))
def pb211 : PC :=
.seq (Ar [0,1] [Ak 4 0]) (.seq (Ar [0,1] [Am 6 1,Am 7 0,Az 8 7,Ab .sub 9 6 8,Am 1 9]) (.seq (.seq (Ar [0,1,11] [Am 10 1,Ae .lss 11 10 0]) (.cond (.t 11) (.seq (Ar [4] [Ak 4 (-1)]) .ret) .skip)) (.seq (.seq (Ar [0,1,5] [Ak 5 0]) (.blk 0 (.loop pl211_0))) (.seq (Ar [1,4] [Am 26 1,Am 4 26]) .ret))))
def pf211 : PF:=⟨[.s 4],[],pb211⟩

def pb212 : PC :=
.seq (Ar [0,1] [Ak 4 0]) (.seq (Ar [1] [Am 5 1,Am 6 0,Az 7 6,Ab .sub 8 5 7,Am 1 8]) (.seq (.seq (Ar [1,10] [Am 9 1,Ae .lss 10 9 0]) (.cond (.t 10) (.seq (Ar [4] [Ak 4 (-1)]) .ret) .skip)) (.seq (Ar [4] [Am 11 1,Am 4 11]) .ret)))
def pf212 : PF:=⟨[.s 4],[],pb212⟩

def pb213 : PC :=
.seq (Ar [1,2] [Ao 2 (.box 2 (.t 0)),Ak 4 0]) (.seq (An1 [1] 8 1 [Af 5 2 1,Al 6 5,Am 7 1,Ac2 228 8 6 7,Am 1 8]) (.seq (.seq (Ar [1,10] [Am 9 1,Ae .lss 10 9 0]) (.cond (.t 10) (.seq (Ar [4] [Ak 4 (-1)]) .ret) .skip)) (.seq (Ar [1,4] [Am 11 1,Am 4 11]) .ret)))
def pf213 : PF:=⟨[.s 4],[],pb213⟩

def pb214 : PC :=
.seq (Ar [1,2] [Ao 2 (.box 3 (.t 0)),Ak 4 0]) (.seq (An1 [1] 8 1 [Af 5 2 0,Al 6 5,Am 7 1,Ac2 219 8 6 7,Am 1 8]) (.seq (.seq (Ar [1,10] [Am 9 1,Ae .lss 10 9 0]) (.cond (.t 10) (.seq (Ar [4] [Ak 4 (-1)]) .ret) .skip)) (.seq (Ar [1,4] [Am 11 1,Am 4 11]) .ret)))
def pf214 : PF:=⟨[.s 4],[],pb214⟩

def pb215 : PC :=
.seq (Ar [0,1] [Ak 4 0]) (.seq (Ar [1] [Am 5 1,Am 6 0,Az 7 6,Ab .sub 8 5 7,Am 1 8]) (.seq (.seq (Ar [1,10] [Am 9 1,Ae .lss 10 9 0]) (.cond (.t 10) (.seq (Ar [4] [Ak 4 (-1)]) .ret) .skip)) (.seq (Ar [4] [Am 11 1,Am 4 11]) .ret)))
def pf215 : PF:=⟨[.s 4],[],pb215⟩

def pb216 : PC :=
.seq (Ar [1,2] [Ao 2 (.box 25 (.t 0)),Ak 4 0]) (.seq (An1 [1,2] 8 1 [Af 5 2 2,Al 6 5,Am 7 1,Ac2 232 8 6 7,Am 1 8]) (.seq (.seq (Ar [1,2,10] [Am 9 1,Ae .lss 10 9 0]) (.cond (.t 10) (.seq (Ar [4] [Ak 4 (-1)]) .ret) .skip)) (.seq (An1 [1,2] 14 1 [Af 11 2 4,AL' 10 12 11,Am 13 1,Ac2 222 14 12 13,Am 1 14]) (.seq (.seq (Ar [1,2,16] [Am 15 1,Ae .lss 16 15 0]) (.cond (.t 16) (.seq (Ar [4] [Ak 4 (-1)]) .ret) .skip)) (.seq (An1 [1] 20 1 [Af 17 2 14,AL' 6 18 17,Am 19 1,Ac2 224 20 18 19,Am 1 20]) (.seq (.seq (Ar [1,22] [Am 21 1,Ae .lss 22 21 0]) (.cond (.t 22) (.seq (Ar [4] [Ak 4 (-1)]) .ret) .skip)) (.seq (Ar [1,4] [Am 23 1,Am 4 23]) .ret)))))))
def pf216 : PF:=⟨[.s 4],[],pb216⟩

def pl217_0 : PC :=
.seq (.seq (Ar [0,1,5,15] [Am 12 5,Am 13 0,Az 14 13,Ab .lss 15 12 14]) (Aj 15 0)) (.seq (.blk 1 (.seq (An1 [0,1,5] 23 1 [Am 18 0,Am 19 5,Ai 25 20 18 19,AL' 25 21 20,Am 22 1,Ac2 216 23 21 22,Am 1 23]) (.seq (Ar [0,1,5,25] [Am 24 1,Ae .lss 25 24 0]) (.cond (.t 25) (.seq (Ar [4] [Ak 4 (-1)]) .ret) .skip)))) (Ar [0,1,5] [Am 16 5,Ae .add 17 16 1,Am 5 17]))
def pb217 : PC :=
.seq (Ar [0,1] [Ak 4 0]) (.seq (Ar [0,1] [Am 6 1,Am 7 0,Az 8 7,Ab .sub 9 6 8,Am 1 9]) (.seq (.seq (Ar [0,1,11] [Am 10 1,Ae .lss 11 10 0]) (.cond (.t 11) (.seq (Ar [4] [Ak 4 (-1)]) .ret) .skip)) (.seq (.seq (Ar [0,1,5] [Ak 5 0]) (.blk 0 (.loop pl217_0))) (.seq (Ar [1,4] [Am 26 1,Am 4 26]) .ret))))
def pf217 : PF:=⟨[.s 4],[],pb217⟩

def pb218 : PC :=
.seq (Ar [1,2] [Ao 2 (.box 2 (.t 0)),Ak 4 0]) (.seq (An1 [1] 8 1 [Af 5 2 1,Al 6 5,Am 7 1,Ac2 223 8 6 7,Am 1 8]) (.seq (.seq (Ar [1,10] [Am 9 1,Ae .lss 10 9 0]) (.cond (.t 10) (.seq (Ar [4] [Ak 4 (-1)]) .ret) .skip)) (.seq (Ar [1,4] [Am 11 1,Am 4 11]) .ret)))
def pf218 : PF:=⟨[.s 4],[],pb218⟩

def pb219 : PC :=
.seq (Ar [0,1] [Ak 4 0]) (.seq (Ar [1] [Am 5 1,Am 6 0,Az 7 6,Ab .sub 8 5 7,Am 1 8]) (.seq (.seq (Ar [1,10] [Am 9 1,Ae .lss 10 9 0]) (.cond (.t 10) (.seq (Ar [4] [Ak 4 (-1)]) .ret) .skip)) (.seq (Ar [4] [Am 11 1,Am 4 11]) .ret)))
def pf219 : PF:=⟨[.s 4],[],pb219⟩

def pb220 : PC :=
.seq (Ar [1,2] [Ao 2 (.box 7 (.t 0)),Ak 4 0]) (.seq (An1 [1,2] 8 1 [Af 5 2 3,AL' 3 6 5,Am 7 1,Ac2 231 8 6 7,Am 1 8]) (.seq (.seq (Ar [1,2,10] [Am 9 1,Ae .lss 10 9 0]) (.cond (.t 10) (.seq (Ar [4] [Ak 4 (-1)]) .ret) .skip)) (.seq (An1 [1] 14 1 [Af 11 2 6,Al 12 11,Am 13 1,Ac2 221 14 12 13,Am 1 14]) (.seq (.seq (Ar [1,16] [Am 15 1,Ae .lss 16 15 0]) (.cond (.t 16) (.seq (Ar [4] [Ak 4 (-1)]) .ret) .skip)) (.seq (Ar [1,4] [Am 17 1,Am 4 17]) .ret)))))
def pf220 : PF:=⟨[.s 4],[],pb220⟩

def pl221_0 : PC :=
.seq (.seq (Ar [0,1,5,15] [Am 12 5,Am 13 0,Az 14 13,Ab .lss 15 12 14]) (Aj 15 0)) (.seq (.blk 1 (.seq (An1 [0,1,5] 23 1 [Am 18 0,Am 19 5,Ai 7 20 18 19,AL' 7 21 20,Am 22 1,Ac2 220 23 21 22,Am 1 23]) (.seq (Ar [0,1,5,25] [Am 24 1,Ae .lss 25 24 0]) (.cond (.t 25) (.seq (Ar [4] [Ak 4 (-1)]) .ret) .skip)))) (Ar [0,1,5] [Am 16 5,Ae .add 17 16 1,Am 5 17]))
def pb221 : PC :=
.seq (Ar [0,1] [Ak 4 0]) (.seq (Ar [0,1] [Am 6 1,Am 7 0,Az 8 7,Ab .sub 9 6 8,Am 1 9]) (.seq (.seq (Ar [0,1,11] [Am 10 1,Ae .lss 11 10 0]) (.cond (.t 11) (.seq (Ar [4] [Ak 4 (-1)]) .ret) .skip)) (.seq (.seq (Ar [0,1,5] [Ak 5 0]) (.blk 0 (.loop pl221_0))) (.seq (Ar [1,4] [Am 26 1,Am 4 26]) .ret))))
def pf221 : PF:=⟨[.s 4],[],pb221⟩

def pb222 : PC :=
.seq (Ar [1,2] [Ao 2 (.box 10 (.t 0)),Ak 4 0]) (.seq (An1 [1,2] 8 1 [Af 5 2 1,AL' 7 6 5,Am 7 1,Ac2 220 8 6 7,Am 1 8]) (.seq (.seq (Ar [1,2,10] [Am 9 1,Ae .lss 10 9 0]) (.cond (.t 10) (.seq (Ar [4] [Ak 4 (-1)]) .ret) .skip)) (.seq (An1 [1] 14 1 [Af 11 2 9,Al 12 11,Am 13 1,Ac2 219 14 12 13,Am 1 14]) (.seq (.seq (Ar [1,16] [Am 15 1,Ae .lss 16 15 0]) (.cond (.t 16) (.seq (Ar [4] [Ak 4 (-1)]) .ret) .skip)) (.seq (Ar [1,4] [Am 17 1,Am 4 17]) .ret)))))
def pf222 : PF:=⟨[.s 4],[],pb222⟩

def pb223 : PC :=
.seq (Ar [0,1] [Ak 4 0]) (.seq (Ar [1] [Am 5 1,Am 6 0,Az 7 6,Ab .sub 8 5 7,Am 1 8]) (.seq (.seq (Ar [1,10] [Am 9 1,Ae .lss 10 9 0]) (.cond (.t 10) (.seq (Ar [4] [Ak 4 (-1)]) .ret) .skip)) (.seq (Ar [4] [Am 11 1,Am 4 11]) .ret)))
def pf223 : PF:=⟨[.s 4],[],pb223⟩

def pb224 : PC :=
.seq (Ar [1,2] [Ao 2 (.box 6 (.t 0)),Ak 4 0]) (.seq (An1 [1,2] 8 1 [Af 5 2 0,Al 6 5,Am 7 1,Ac2 226 8 6 7,Am 1 8]) (.seq (.seq (Ar [1,2,10] [Am 9 1,Ae .lss 10 9 0]) (.cond (.t 10) (.seq (Ar [4] [Ak 4 (-1)]) .ret) .skip)) (.seq (An1 [1] 14 1 [Af 11 2 3,AL' 3 12 11,Am 13 1,Ac2 231 14 12 13,Am 1 14]) (.seq (.seq (Ar [1,16] [Am 15 1,Ae .lss 16 15 0]) (.cond (.t 16) (.seq (Ar [4] [Ak 4 (-1)]) .ret) .skip)) (.seq (Ar [1,4] [Am 17 1,Am 4 17]) .ret)))))
def pf224 : PF:=⟨[.s 4],[],pb224⟩

def pb225 : PC :=
.seq (Ar [1,2] [Ao 2 (.box 2 (.t 0)),Ak 4 0]) (.seq (An1 [1] 8 1 [Af 5 2 1,Al 6 5,Am 7 1,Ac2 232 8 6 7,Am 1 8]) (.seq (.seq (Ar [1,10] [Am 9 1,Ae .lss 10 9 0]) (.cond (.t 10) (.seq (Ar [4] [Ak 4 (-1)]) .ret) .skip)) (.seq (Ar [1,4] [Am 11 1,Am 4 11]) .ret)))
def pf225 : PF:=⟨[.s 4],[],pb225⟩

def pl226_0 : PC :=
.seq (.seq (Ar [0,1,5,15] [Am 12 5,Am 13 0,Az 14 13,Ab .lss 15 12 14]) (Aj 15 0)) (.seq (.blk 1 (.seq (An1 [0,1,5] 23 1 [Am 18 0,Am 19 5,Ai 2 20 18 19,AL' 2 21 20,Am 22 1,Ac2 225 23 21 22,Am 1 23]) (.seq (Ar [0,1,5,25] [Am 24 1,Ae .lss 25 24 0]) (.cond (.t 25) (.seq (Ar [4] [Ak 4 (-1)]) .ret) .skip)))) (Ar [0,1,5] [Am 16 5,Ae .add 17 16 1,Am 5 17]))
def pb226 : PC :=
.seq (Ar [0,1] [Ak 4 0]) (.seq (Ar [0,1] [Am 6 1,Am 7 0,Az 8 7,Ab .sub 9 6 8,Am 1 9]) (.seq (.seq (Ar [0,1,11] [Am 10 1,Ae .lss 11 10 0]) (.cond (.t 11) (.seq (Ar [4] [Ak 4 (-1)]) .ret) .skip)) (.seq (.seq (Ar [0,1,5] [Ak 5 0]) (.blk 0 (.loop pl226_0))) (.seq (Ar [1,4] [Am 26 1,Am 4 26]) .ret))))
def pf226 : PF:=⟨[.s 4],[],pb226⟩

def pb227 : PC :=
.seq (Ar [1,2] [Ao 2 (.box 2 (.t 0)),Ak 4 0]) (.seq (An1 [1] 8 1 [Af 5 2 1,Al 6 5,Am 7 1,Ac2 232 8 6 7,Am 1 8]) (.seq (.seq (Ar [1,10] [Am 9 1,Ae .lss 10 9 0]) (.cond (.t 10) (.seq (Ar [4] [Ak 4 (-1)]) .ret) .skip)) (.seq (Ar [1,4] [Am 11 1,Am 4 11]) .ret)))
def pf227 : PF:=⟨[.s 4],[],pb227⟩

def pl228_0 : PC :=
.seq (.seq (Ar [0,1,5,15] [Am 12 5,Am 13 0,Az 14 13,Ab .lss 15 12 14]) (Aj 15 0)) (.seq (.blk 1 (.seq (An1 [0,1,5] 23 1 [Am 18 0,Am 19 5,Ai 2 20 18 19,AL' 2 21 20,Am 22 1,Ac2 227 23 21 22,Am 1 23]) (.seq (Ar [0,1,5,25] [Am 24 1,Ae .lss 25 24 0]) (.cond (.t 25) (.seq (Ar [4] [Ak 4 (-1)]) .ret) .skip)))) (Ar [0,1,5] [Am 16 5,Ae .add 17 16 1,Am 5 17]))
def pb228 : PC :=
.seq (Ar [0,1] [Ak 4 0]) (.seq (Ar [0,1] [Am 6 1,Am 7 0,Az 8 7,Ab .sub 9 6 8,Am 1 9]) (.seq (.seq (Ar [0,1,11] [Am 10 1,Ae .lss 11 10 0]) (.cond (.t 11) (.seq (Ar [4] [Ak 4 (-1)]) .ret) .skip)) (.seq (.seq (Ar [0,1,5] [Ak 5 0]) (.blk 0 (.loop pl228_0))) (.seq (Ar [1,4] [Am 26 1,Am 4 26]) .ret))))
def pf228 : PF:=⟨[.s 4],[],pb228⟩

def pb229 : PC :=
.seq (Ar [1,2] [Ao 2 (.box 25 (.t 0)),Ak 4 0]) (.seq (An1 [1,2] 8 1 [Af 5 2 3,Al 6 5,Am 7 1,Ac2 232 8 6 7,Am 1 8]) (.seq (.seq (Ar [1,2,10] [Am 9 1,Ae .lss 10 9 0]) (.cond (.t 10) (.seq (Ar [4] [Ak 4 (-1)]) .ret) .skip)) (.seq (An1 [1,2] 14 1 [Af 11 2 5,AL' 10 12 11,Am 13 1,Ac2 222 14 12 13,Am 1 14]) (.seq (.seq (Ar [1,2,16] [Am 15 1,Ae .lss 16 15 0]) (.cond (.t 16) (.seq (Ar [4] [Ak 4 (-1)]) .ret) .skip)) (.seq (An1 [1,2] 20 1 [Af 17 2 17,Al 18 17,Am 19 1,Ac2 223 20 18 19,Am 1 20]) (.seq (.seq (Ar [1,2,22] [Am 21 1,Ae .lss 22 21 0]) (.cond (.t 22) (.seq (Ar [4] [Ak 4 (-1)]) .ret) .skip)) (.seq (An1 [1] 26 1 [Af 23 2 24,Al 24 23,Am 25 1,Ac2 226 26 24 25,Am 1 26]) (.seq (.seq (Ar [1,28] [Am 27 1,Ae .lss 28 27 0]) (.cond (.t 28) (.seq (Ar [4] [Ak 4 (-1)]) .ret) .skip)) (.seq (Ar [1,4] [Am 29 1,Am 4 29]) .ret)))))))))
def pf229 : PF:=⟨[.s 4],[],pb229⟩

def pl230_0 : PC :=
.seq (.seq (Ar [0,1,5,15] [Am 12 5,Am 13 0,Az 14 13,Ab .lss 15 12 14]) (Aj 15 0)) (.seq (.blk 1 (.seq (An1 [0,1,5] 23 1 [Am 18 0,Am 19 5,Ai 25 20 18 19,AL' 25 21 20,Am 22 1,Ac2 229 23 21 22,Am 1 23]) (.seq (Ar [0,1,5,25] [Am 24 1,Ae .lss 25 24 0]) (.cond (.t 25) (.seq (Ar [4] [Ak 4 (-1)]) .ret) .skip)))) (Ar [0,1,5] [Am 16 5,Ae .add 17 16 1,Am 5 17]))
def pb230 : PC :=
.seq (Ar [0,1] [Ak 4 0]) (.seq (Ar [0,1] [Am 6 1,Am 7 0,Az 8 7,Ab .sub 9 6 8,Am 1 9]) (.seq (.seq (Ar [0,1,11] [Am 10 1,Ae .lss 11 10 0]) (.cond (.t 11) (.seq (Ar [4] [Ak 4 (-1)]) .ret) .skip)) (.seq (.seq (Ar [0,1,5] [Ak 5 0]) (.blk 0 (.loop pl230_0))) (.seq (Ar [1,4] [Am 26 1,Am 4 26]) .ret))))
def pf230 : PF:=⟨[.s 4],[],pb230⟩

def pb231 : PC :=
.seq (Ar [1,2] [Ao 2 (.box 3 (.t 0)),Ak 4 0]) (.seq (Ar [1] [Am 5 1,Af 6 2 2,Al 7 6,Ao 8 (.lens (.t 7)),Ab .sub 9 5 8,Am 1 9]) (.seq (.seq (Ar [1,11] [Am 10 1,Ae .lss 11 10 0]) (.cond (.t 11) (.seq (Ar [4] [Ak 4 (-1)]) .ret) .skip)) (.seq (Ar [4] [Am 12 1,Am 4 12]) .ret)))
def pf231 : PF:=⟨[.s 4],[],pb231⟩

def pl232_0 : PC :=
.seq (.seq (Ar [0,1,5,15] [Am 12 5,Am 13 0,Az 14 13,Ab .lss 15 12 14]) (Aj 15 0)) (.seq (.blk 1 (.seq (An1 [0,1,5] 23 1 [Am 18 0,Am 19 5,Ai 3 20 18 19,AL' 3 21 20,Am 22 1,Ac2 231 23 21 22,Am 1 23]) (.seq (Ar [0,1,5,25] [Am 24 1,Ae .lss 25 24 0]) (.cond (.t 25) (.seq (Ar [4] [Ak 4 (-1)]) .ret) .skip)))) (Ar [0,1,5] [Am 16 5,Ae .add 17 16 1,Am 5 17]))
def pb232 : PC :=
.seq (Ar [0,1] [Ak 4 0]) (.seq (Ar [0,1] [Am 6 1,Am 7 0,Az 8 7,Ab .sub 9 6 8,Am 1 9]) (.seq (.seq (Ar [0,1,11] [Am 10 1,Ae .lss 11 10 0]) (.cond (.t 11) (.seq (Ar [4] [Ak 4 (-1)]) .ret) .skip)) (.seq (.seq (Ar [0,1,5] [Ak 5 0]) (.blk 0 (.loop pl232_0))) (.seq (Ar [1,4] [Am 26 1,Am 4 26]) .ret))))
def pf232 : PF:=⟨[.s 4],[],pb232⟩

def pb233 : PC :=
.seq (Ar [1,2] [Ao 2 (.box 14 (.t 0)),Ak 4 0]) (.seq (An1 [1,2] 8 1 [Af 5 2 0,AL' 3 6 5,Am 7 1,Ac2 214 8 6 7,Am 1 8]) (.seq (.seq (Ar [1,2,10] [Am 9 1,Ae .lss 10 9 0]) (.cond (.t 10) (.seq (Ar [4] [Ak 4 (-1)]) .ret) .skip)) (.seq (An1 [1,2] 14 1 [Af 11 2 6,AL' 2 12 11,Am 13 1,Ac2 218 14 12 13,Am 1 14]) (.seq (.seq (Ar [1,2,16] [Am 15 1,Ae .lss 16 15 0]) (.cond (.t 16) (.seq (Ar [4] [Ak 4 (-1)]) .ret) .skip)) (.seq (An1 [1,2] 20 1 [Af 17 2 8,Al 18 17,Am 19 1,Ac2 211 20 18 19,Am 1 20]) (.seq (.seq (Ar [1,2,22] [Am 21 1,Ae .lss 22 21 0]) (.cond (.t 22) (.seq (Ar [4] [Ak 4 (-1)]) .ret) .skip)) (.seq (An1 [1,2] 26 1 [Af 23 2 9,Al 24 23,Am 25 1,Ac2 219 26 24 25,Am 1 26]) (.seq (.seq (Ar [1,2,28] [Am 27 1,Ae .lss 28 27 0]) (.cond (.t 28) (.seq (Ar [4] [Ak 4 (-1)]) .ret) .skip)) (.seq (An1 [1,2] 32 1 [Af 29 2 10,Al 30 29,Am 31 1,Ac2 215 32 30 31,Am 1 32]) (.seq (.seq (Ar [1,2,34] [Am 33 1,Ae .lss 34 33 0]) (.cond (.t 34) (.seq (Ar [4] [Ak 4 (-1)]) .ret) .skip)) (.seq (An1 [1,2] 38 1 [Af 35 2 11,Al 36 35,Am 37 1,Ac2 219 38 36 37,Am 1 38]) (.seq (.seq (Ar [1,2,40] [Am 39 1,Ae .lss 40 39 0]) (.cond (.t 40) (.seq (Ar [4] [Ak 4 (-1)]) .ret) .skip)) (.seq (An1 [1,2] 44 1 [Af 41 2 12,Al 42 41,Am 43 1,Ac2 230 44 42 43,Am 1 44]) (.seq (.seq (Ar [1,2,46] [Am 45 1,Ae .lss 46 45 0]) (.cond (.t 46) (.seq (Ar [4] [Ak 4 (-1)]) .ret) .skip)) (.seq (An1 [1] 50 1 [Af 47 2 13,Al 48 47,Am 49 1,Ac2 217 50 48 49,Am 1 50]) (.seq (.seq (Ar [1,52] [Am 51 1,Ae .lss 52 51 0]) (.cond (.t 52) (.seq (Ar [4] [Ak 4 (-1)]) .ret) .skip)) (.seq (Ar [1,4] [Am 53 1,Am 4 53]) .ret)))))))))))))))))
def pf233 : PF:=⟨[.s 4],[],pb233⟩

def pb234 : PC :=
.seq (Ar [1,2] [Ao 1 (.box 5 (.t 0)),Ao 2 (.alloc [A0,A0,A0,(.nl 2),(.nl 1)])]) (.seq (Ar [1,2,3] [Ao 3 (.alloc [A0,A0,A0,(.nl 2),(.nl 1)])]) (.seq (Ar [1,2,3] [Af 4 1 0,Al 5 4,Af 6 3 0,As 1 6 5]) (.seq (Ar [1,2,3] [Af 7 1 1,Al 8 7,Af 9 3 1,As 1 9 8]) (.seq (Ar [1,2,3] [Af 10 1 2,AL' 2 11 10,Ac1 237 12 11,Af 13 3 2,As 2 13 12]) (.seq (Ar [2,3] [Af 14 1 4,Al 15 14,Ac1 236 16 15,Af 17 3 4,As 1 17 16]) (.seq (Ar [2] [AL' 5 18 3,As 5 2 18]) .ret))))))
def pf234 : PF:=⟨[.b 2 5 true],[],pb234⟩

def pl235_0 : PC :=
.seq (.seq (Ar [0,3,4,11] [Am 8 4,Am 9 0,Az 10 9,Ab .lss 11 8 10]) (Aj 11 0)) (.seq (.blk 1 (Ar [0,3,4] [Am 14 3,Am 15 4,Am 16 0,Am 17 4,Ai 5 18 16 17,AL' 5 19 18,Ac1 234 20 19,Ai 5 21 14 15,As 5 21 20])) (Ar [0,3,4] [Am 12 4,Ae .add 13 12 1,Am 4 13]))
def pb235 : PC :=
.seq (Ar [0] [Ao 2 (.mv (.c (.nl 5)))]) (.seq (An1 [0,3] 7 3 [Am 5 0,Az 6 5,Ao 7 (.mks 5 72 [A2,A2,A2,.sl 2 [],.sl 1 []] (.t 6)),Am 3 7]) (.seq (.seq (Ar [0,3,4] [Ak 4 0]) (.blk 0 (.loop pl235_0))) (.seq (Ar [2,3] [Am 22 3,Am 2 22]) .ret)))
def pf235 : PF:=⟨[.s 2],[],pb235⟩

def pl236_0 : PC :=
.seq (.seq (Ar [0,3,4,11] [Am 8 4,Am 9 0,Az 10 9,Ab .lss 11 8 10]) (Aj 11 0)) (.seq (.blk 1 (Ar [0,3,4] [Am 14 3,Am 15 4,Am 16 0,Am 17 4,Ai 1 18 16 17,Al 19 18,Ai 1 20 14 15,As 1 20 19])) (Ar [0,3,4] [Am 12 4,Ae .add 13 12 1,Am 4 13]))
def pb236 : PC :=
.seq (Ar [0] [Ao 2 (.mv (.c (.nl 1)))]) (.seq (An1 [0,3] 7 3 [Am 5 0,Az 6 5,Ao 7 (.mks 1 1 [.int .u8 0] (.t 6)),Am 3 7]) (.seq (.seq (Ar [0,3,4] [Ak 4 0]) (.blk 0 (.loop pl236_0))) (.seq (Ar [2,3] [Am 21 3,Am 2 21]) .ret)))
def pf236 : PF:=⟨[.s 2],[],pb236⟩

def pb237 : PC :=
.seq (Ar [1,2] [Ao 1 (.box 2 (.t 0)),Ao 2 (.alloc [A0,(.nl 2)])]) (.seq (Ar [1,2,3] [Ao 3 (.alloc [A0,(.nl 2)])]) (.seq (Ar [1,2,3] [Af 4 1 0,Al 5 4,Af 6 3 0,As 1 6 5]) (.seq (Ar [2,3] [Af 7 1 1,Al 8 7,Ac1 254 9 8,Af 10 3 1,As 1 10 9]) (.seq (Ar [2] [AL' 2 11 3,As 2 2 11]) .ret))))
def pf237 : PF:=⟨[.b 2 2 true],[],pb237⟩

def pb238 : PC :=
.seq (Ar [1,2] [Ao 1 (.box 3 (.t 0)),Ao 2 (.alloc [(.nl 1),A0,A0])]) (.seq (Ar [1,2,3] [Ao 3 (.alloc [(.nl 1),A0,A0])]) (.seq (Ar [1,2,3] [Af 4 1 0,Al 5 4,Ac1 244 6 5,Af 7 3 0,As 1 7 6]) (.seq (Ar [1,2,3] [Af 8 1 1,Al 9 8,Af 10 3 1,As 1 10 9]) (.seq (Ar [2,3] [Af 11 1 2,Al 12 11,Af 13 3 2,As 1 13 12]) (.seq (Ar [2] [AL' 3 14 3,As 3 2 14]) .ret)))))
def pf238 : PF:=⟨[.b 2 3 true],[],pb238⟩

def pb239 : PC :=
.seq (Ar [1,2] [Ao 1 (.box 3 (.t 0)),Ao 2 (.alloc [A0,A0,A0])]) (.seq (Ar [1,2,3] [Ao 3 (.alloc [A0,A0,A0])]) (.seq (Ar [1,2,3] [Af 4 1 0,Al 5 4,Af 6 3 0,As 1 6 5]) (.seq (Ar [1,2,3] [Af 7 1 1,Al 8 7,Af 9 3 1,As 1 9 8]) (.seq (Ar [2,3] [Af 10 1 2,Al 11 10,Af 12 3 2,As 1 12 11]) (.seq (Ar [2] [AL' 3 13 3,As 3 2 13]) .ret)))))
def pf239 : PF:=⟨[.b 2 3 true],[],pb239⟩

def pl240_0 : PC :=
.seq (.seq (Ar [0,3,4,11] [Am 8 4,Am 9 0,Az 10 9,Ab .lss 11 8 10]) (Aj 11 0)) (.seq (.blk 1 (Ar [0,3,4] [Am 14 3,Am 15 4,Am 16 0,Am 17 4,Ai 3 18 16 17,AL' 3 19 18,Ac1 239 20 19,Ai 3 21 14 15,As 3 21 20])) (Ar [0,3,4] [Am 12 4,Ae .add 13 12 1,Am 4 13]))
def pb240 : PC :=
.seq (Ar [0] [Ao 2 (.mv (.c (.nl 3)))]) (.seq (An1 [0,3] 7 3 [Am 5 0,Az 6 5,Ao 7 (.mks 3 24 [A2,A2,A2] (.t 6)),Am 3 7]) (.seq (.seq (Ar [0,3,4] [Ak 4 0]) (.blk 0 (.loop pl240_0))) (.seq (Ar [2,3] [Am 22 3,Am 2 22]) .ret)))
def pf240 : PF:=⟨[.s 2],[],pb240⟩

def pb241 : PC :=
.seq (Ar [1,2] [Ao 1 (.box 25 (.t 0)),⟨some 2,.alloc [A0,A0,(.nl 3),A0,A0,A0,A0,A0,A0,A0,A1,(.nl 7),A0,(.nl 1),(.nl 2),A0,(.v false (.bool false)),A0,A0,A1,A0,A0,A0,A0,A0],none⟩]) (.seq (Ar [1,2,3] [⟨some 3,.alloc [A0,A0,(.nl 3),A0,A0,A0,A0,A0,A0,A0,A1,(.nl 7),A0,(.nl 1),(.nl 2),A0,(.v false (.bool false)),A0,A0,A1,A0,A0,A0,A0,A0],none⟩]) (.seq (Ar [1,2,3] [Af 4 1 0,Al 5 4,Af 6 3 0,As 1 6 5]) (.seq (Ar [1,2,3] [Af 7 1 1,Al 8 7,Af 9 3 1,As 1 9 8]) (.seq (Ar [1,2,3] [Af 10 1 2,Al 11 10,Ac1 258 12 11,Af 13 3 2,As 1 13 12]) (.seq (Ar [1,2,3] [Af 14 1 3,Al 15 14,Af 16 3 3,As 1 16 15]) (.seq (Ar [1,2,3] [Af 17 1 4,AL' 10 18 17,Ac1 247 19 18,Af 20 3 4,As 10 20 19]) (.seq (Ar [1,2,3] [Af 21 1 14,AL' 6 22 21,Ac1 250 23 22,Af 24 3 14,As 6 24 23]) (.seq (Ar [1,2,3] [Af 25 1 20,Al 26 25,Af 27 3 20,As 1 27 26]) (.seq (Ar [1,2,3] [Af 28 1 21,Al 29 28,Af 30 3 21,As 1 30 29]) (.seq (Ar [1,2,3] [Af 31 1 22,Al 32 31,Af 33 3 22,As 1 33 32]) (.seq (Ar [1,2,3] [Af 34 1 23,Al 35 34,Af 36 3 23,As 1 36 35]) (.seq (Ar [2,3] [Af 37 1 24,Al 38 37,Af 39 3 24,As 1 39 38]) (.seq (Ar [2] [AL' 25 40 3,As 25 2 40]) .ret)))))))))))))
def pf241 : PF:=⟨[.b 2 25 true],[],pb241⟩

def pl242_0 : PC :=
.seq (.seq (Ar [0,3,4,11] [Am 8 4,Am 9 0,Az 10 9,Ab .lss 11 8 10]) (Aj 11 0)) (.seq (.blk 1 (Ar [0,3,4] [Am 14 3,Am 15 4,Am 16 0,Am 17 4,Ai 25 18 16 17,AL' 25 19 18,Ac1 241 20 19,Ai 25 21 14 15,As 25 21 20])) (Ar [0,3,4] [Am 12 4,Ae .add 13 12 1,Am 4 13]))
def pb242 : PC :=
.seq (Ar [0] [Ao 2 (.mv (.c (.nl 25)))]) (.seq (An1 [0,3] 7 3 [Am 5 0,Az 6 5,⟨some 7,.mks 25 280 [A2,A2,.sl 3 [],A2,A2,A2,A2,A2,A2,A2,A3,.sl 7 [],A2,.sl 1 [],.sl 2 [],A2,.bool false,A2,A2,A3,A2,A2,A2,A2,A2] (.t 6),none⟩,Am 3 7]) (.seq (.seq (Ar [0,3,4] [Ak 4 0]) (.blk 0 (.loop pl242_0))) (.seq (Ar [2,3] [Am 22 3,Am 2 22]) .ret)))
def pf242 : PF:=⟨[.s 2],[],pb242⟩

def pb243 : PC :=
.seq (Ar [1,2] [Ao 1 (.box 2 (.t 0)),Ao 2 (.alloc [A0,(.nl 5)])]) (.seq (Ar [1,2,3] [Ao 3 (.alloc [A0,(.nl 5)])]) (.seq (Ar [1,2,3] [Af 4 1 0,Al 5 4,Af 6 3 0,As 1 6 5]) (.seq (Ar [2,3] [Af 7 1 1,Al 8 7,Ac1 249 9 8,Af 10 3 1,As 1 10 9]) (.seq (Ar [2] [AL' 2 11 3,As 2 2 11]) .ret))))
def pf243 : PF:=⟨[.b 2 2 true],[],pb243⟩

def pl244_0 : PC :=
.seq (.seq (Ar [0,3,4,11] [Am 8 4,Am 9 0,Az 10 9,Ab .lss 11 8 10]) (Aj 11 0)) (.seq (.blk 1 (Ar [0,3,4] [Am 14 3,Am 15 4,Am 16 0,Am 17 4,Ai 1 18 16 17,Al 19 18,Ai 1 20 14 15,As 1 20 19])) (Ar [0,3,4] [Am 12 4,Ae .add 13 12 1,Am 4 13]))
def pb244 : PC :=
.seq (Ar [0] [Ao 2 (.mv (.c (.nl 1)))]) (.seq (An1 [0,3] 7 3 [Am 5 0,Az 6 5,Ao 7 (.mks 1 8 [A2] (.t 6)),Am 3 7]) (.seq (.seq (Ar [0,3,4] [Ak 4 0]) (.blk 0 (.loop pl244_0))) (.seq (Ar [2,3] [Am 21 3,Am 2 21]) .ret)))
def pf244 : PF:=⟨[.s 2],[],pb244⟩

def pb245 : PC :=
.seq (Ar [1,2] [Ao 1 (.box 7 (.t 0)),⟨some 2,.alloc [A0,A0,A0,A0,A0,A1,(.nl 7)],none⟩]) (.seq (Ar [1,2,3] [⟨some 3,.alloc [A0,A0,A0,A0,A0,A1,(.nl 7)],none⟩]) (.seq (Ar [1,2,3] [Af 4 1 0,Al 5 4,Af 6 3 0,As 1 6 5]) (.seq (Ar [1,2,3] [Af 7 1 1,Al 8 7,Af 9 3 1,As 1 9 8]) (.seq (Ar [1,2,3] [Af 10 1 2,Al 11 10,Af 12 3 2,As 1 12 11]) (.seq (Ar [1,2,3] [Af 13 1 3,AL' 3 14 13,Ac1 257 15 14,Af 16 3 3,As 3 16 15]) (.seq (Ar [2,3] [Af 17 1 6,Al 18 17,Ac1 246 19 18,Af 20 3 6,As 1 20 19]) (.seq (Ar [2] [AL' 7 21 3,As 7 2 21]) .ret)))))))
def pf245 : PF:=⟨[.b 2 7 true],[],pb245⟩

def pl246_0 : PC :=
.seq (.seq (Ar [0,3,4,11] [Am 8 4,Am 9 0,Az 10 9,Ab .lss 11 8 10]) (Aj 11 0)) (.seq (.blk 1 (Ar [0,3,4] [Am 14 3,Am 15 4,Am 16 0,Am 17 4,Ai 7 18 16 17,AL' 7 19 18,Ac1 245 20 19,Ai 7 21 14 15,As 7 21 20])) (Ar [0,3,4] [Am 12 4,Ae .add 13 12 1,Am 4 13]))
def pb246 : PC :=
.seq (Ar [0] [Ao 2 (.mv (.c (.nl 7)))]) (.seq (An1 [0,3] 7 3 [Am 5 0,Az 6 5,⟨some 7,.mks 7 80 [A2,A2,A2,A2,A2,A3,.sl 7 []] (.t 6),none⟩,Am 3 7]) (.seq (.seq (Ar [0,3,4] [Ak 4 0]) (.blk 0 (.loop pl246_0))) (.seq (Ar [2,3] [Am 22 3,Am 2 22]) .ret)))
def pf246 : PF:=⟨[.s 2],[],pb246⟩

def pb247 : PC :=
.seq (Ar [1,2] [Ao 1 (.box 10 (.t 0)),⟨some 2,.alloc [A0,A0,A0,A0,A0,A0,A1,(.nl 7),A0,(.nl 1)],none⟩]) (.seq (Ar [1,2,3] [⟨some 3,.alloc [A0,A0,A0,A0,A0,A0,A1,(.nl 7),A0,(.nl 1)],none⟩]) (.seq (Ar [1,2,3] [Af 4 1 0,Al 5 4,Af 6 3 0,As 1 6 5]) (.seq (Ar [1,2,3] [Af 7 1 1,AL' 7 8 7,Ac1 245 9 8,Af 10 3 1,As 7 10 9]) (.seq (Ar [1,2,3] [Af 11 1 8,Al 12 11,Af 13 3 8,As 1 13 12]) (.seq (Ar [2,3] [Af 14 1 9,Al 15 14,Ac1 244 16 15,Af 17 3 9,As 1 17 16]) (.seq (Ar [2] [AL' 10 18 3,As 10 2 18]) .ret))))))
def pf247 : PF:=⟨[.b 2 10 true],[],pb247⟩

def pb248 : PC :=
.seq (Ar [1,2] [Ao 1 (.box 5 (.t 0)),Ao 2 (.alloc [A0,A0,A0,A0,A0])]) (.seq (Ar [1,2,3] [Ao 3 (.alloc [A0,A0,A0,A0,A0])]) (.seq (Ar [1,2,3] [Af 4 1 0,Al 5 4,Af 6 3 0,As 1 6 5]) (.seq (Ar [1,2,3] [Af 7 1 1,Al 8 7,Af 9 3 1,As 1 9 8]) (.seq (Ar [1,2,3] [Af 10 1 2,Al 11 10,Af 12 3 2,As 1 12 11]) (.seq (Ar [1,2,3] [Af 13 1 3,Al 14 13,Af 15 3 3,As 1 15 14]) (.seq (Ar [2,3] [Af 16 1 4,Al 17 16,Af 18 3 4,As 1 18 17]) (.seq (Ar [2] [AL' 5 19 3,As 5 2 19]) .ret)))))))
def pf248 : PF:=⟨[.b 2 5 true],[],pb248⟩

def pl249_0 : PC :=
.seq (.seq (Ar [0,3,4,11] [Am 8 4,Am 9 0,Az 10 9,Ab .lss 11 8 10]) (Aj 11 0)) (.seq (.blk 1 (Ar [0,3,4] [Am 14 3,Am 15 4,Am 16 0,Am 17 4,Ai 5 18 16 17,AL' 5 19 18,Ac1 248 20 19,Ai 5 21 14 15,As 5 21 20])) (Ar [0,3,4] [Am 12 4,Ae .add 13 12 1,Am 4 13]))
def pb249 : PC :=
.seq (Ar [0] [Ao 2 (.mv (.c (.nl 5)))]) (.seq (An1 [0,3] 7 3 [Am 5 0,Az 6 5,Ao 7 (.mks 5 40 [A2,A2,A2,A2,A2] (.t 6)),Am 3 7]) (.seq (.seq (Ar [0,3,4] [Ak 4 0]) (.blk 0 (.loop pl249_0))) (.seq (Ar [2,3] [Am 22 3,Am 2 22]) .ret)))
def pf249 : PF:=⟨[.s 2],[],pb249⟩

def pb250 : PC :=
.seq (Ar [1,2] [Ao 1 (.box 6 (.t 0)),⟨some 2,.alloc [(.nl 2),A0,(.v false (.bool false)),A0,A0,A1],none⟩]) (.seq (Ar [1,2,3] [⟨some 3,.alloc [(.nl 2),A0,(.v false (.bool false)),A0,A0,A1],none⟩]) (.seq (Ar [1,2,3] [Af 4 1 0,Al 5 4,Ac1 252 6 5,Af 7 3 0,As 1 7 6]) (.seq (Ar [1,2,3] [Af 8 1 1,Al 9 8,Af 10 3 1,As 1 10 9]) (.seq (Ar [1,2,3] [Af 11 1 2,Al 12 11,Af 13 3 2,As 1 13 12]) (.seq (Ar [2,3] [Af 14 1 3,AL' 3 15 14,Ac1 257 16 15,Af 17 3 3,As 3 17 16]) (.seq (Ar [2] [AL' 6 18 3,As 6 2 18]) .ret))))))
def pf250 : PF:=⟨[.b 2 6 true],[],pb250⟩

def pb251 : PC :=
.seq (Ar [1,2] [Ao 1 (.box 2 (.t 0)),Ao 2 (.alloc [A0,(.nl 3)])]) (.seq (Ar [1,2,3] [Ao 3 (.alloc [A0,(.nl 3)])]) (.seq (Ar [1,2,3] [Af 4 1 0,Al 5 4,Af 6 3 0,As 1 6 5]) (.seq (Ar [2,3] [Af 7 1 1,Al 8 7,Ac1 258 9 8,Af 10 3 1,As 1 10 9]) (.seq (Ar [2] [AL' 2 11 3,As 2 2 11]) .ret))))
def pf251 : PF:=⟨[.b 2 2 true],[],pb251⟩

def pl252_0 : PC :=
.seq (.seq (Ar [0,3,4,11] [Am 8 4,Am 9 0,Az 10 9,Ab .lss 11 8 10]) (Aj 11 0)) (.seq (.blk 1 (Ar [0,3,4] [Am 14 3,Am 15 4,Am 16 0,Am 17 4,Ai 2 18 16 17,AL' 2 19 18,Ac1 251 20 19,Ai 2 21 14 15,As 2 21 20])) (Ar [0,3,4] [Am 12 4,Ae .add 13 12 1,Am 4 13]))
def pb252 : PC :=
.seq (Ar [0] [Ao 2 (.mv (.c (.nl 2)))]) (.seq (An1 [0,3] 7 3 [Am 5 0,Az 6 5,Ao 7 (.mks 2 32 [A2,.sl 3 []] (.t 6)),Am 3 7]) (.seq (.seq (Ar [0,3,4] [Ak 4 0]) (.blk 0 (.loop pl252_0))) (.seq (Ar [2,3] [Am 22 3,Am 2 22]) .ret)))
def pf252 : PF:=⟨[.s 2],[],pb252⟩

def pb253 : PC :=
.seq (Ar [1,2] [Ao 1 (.box 2 (.t 0)),Ao 2 (.alloc [A0,(.nl 3)])]) (.seq (Ar [1,2,3] [Ao 3 (.alloc [A0,(.nl 3)])]) (.seq (Ar [1,2,3] [Af 4 1 0,Al 5 4,Af 6 3 0,As 1 6 5]) (.seq (Ar [2,3] [Af 7 1 1,Al 8 7,Ac1 258 9 8,Af 10 3 1,As 1 10 9]) (.seq (Ar [2] [AL' 2 11 3,As 2 2 11]) .ret))))
def pf253 : PF:=⟨[.b 2 2 true],[],pb253⟩

def pl254_0 : PC :=
.seq (.seq (Ar [0,3,4,11] [Am 8 4,Am 9 0,Az 10 9,Ab .lss 11 8 10]) (Aj 11 0)) (.seq (.blk 1 (Ar [0,3,4] [Am 14 3,Am 15 4,Am 16 0,Am 17 4,Ai 2 18 16 17,AL' 2 19 18,Ac1 253 20 19,Ai 2 21 14 15,As 2 21 20])) (Ar [0,3,4] [Am 12 4,Ae .add 13 12 1,Am 4 13]))
def pb254 : PC :=
.seq (Ar [0] [Ao 2 (.mv (.c (.nl 2)))]) (.seq (An1 [0,3] 7 3 [Am 5 0,Az 6 5,Ao 7 (.mks 2 32 [A2,.sl 3 []] (.t 6)),Am 3 7]) (.seq (.seq (Ar [0,3,4] [Ak 4 0]) (.blk 0 (.loop pl254_0))) (.seq (Ar [2,3] [Am 22 3,Am 2 22]) .ret)))
def pf254 : PF:=⟨[.s 2],[],pb254⟩

def pb255 : PC :=
.seq (Ar [1,2] [Ao 1 (.box 25 (.t 0)),⟨some 2,.alloc [A0,A0,A0,(.nl 3),A0,A0,A0,A0,A0,A0,A0,A1,(.nl 7),A0,(.nl 1),A0,A0,(.nl 5),A0,A0,A0,A0,A0,(.v false (.bool false)),(.nl 2)],none⟩]) (.seq (Ar [1,2,3] [⟨some 3,.alloc [A0,A0,A0,(.nl 3),A0,A0,A0,A0,A0,A0,A0,A1,(.nl 7),A0,(.nl 1),A0,A0,(.nl 5),A0,A0,A0,A0,A0,(.v false (.bool false)),(.nl 2)],none⟩]) (.seq (Ar [1,2,3] [Af 4 1 0,Al 5 4,Af 6 3 0,As 1 6 5]) (.seq (Ar [1,2,3] [Af 7 1 1,Al 8 7,Af 9 3 1,As 1 9 8]) (.seq (Ar [1,2,3] [Af 10 1 2,Al 11 10,Af 12 3 2,As 1 12 11]) (.seq (Ar [1,2,3] [Af 13 1 3,Al 14 13,Ac1 258 15 14,Af 16 3 3,As 1 16 15]) (.seq (Ar [1,2,3] [Af 17 1 4,Al 18 17,Af 19 3 4,As 1 19 18]) (.seq (Ar [1,2,3] [Af 20 1 5,AL' 10 21 20,Ac1 247 22 21,Af 23 3 5,As 10 23 22]) (.seq (Ar [1,2,3] [Af 24 1 15,Al 25 24,Af 26 3 15,As 1 26 25]) (.seq (Ar [1,2,3] [Af 27 1 16,Al 28 27,Af 29 3 16,As 1 29 28]) (.seq (Ar [1,2,3] [Af 30 1 17,Al 31 30,Ac1 249 32 31,Af 33 3 17,As 1 33 32]) (.seq (Ar [1,2,3] [Af 34 1 18,Al 35 34,Af 36 3 18,As 1 36 35]) (.seq (Ar [1,2,3] [Af 37 1 19,Al 38 37,Af 39 3 19,As 1 39 38]) (.seq (Ar [1,2,3] [Af 40 1 20,Al 41 40,Af 42 3 20,As 1 42 41]) (.seq (Ar [1,2,3] [Af 43 1 21,Al 44 43,Af 45 3 21,As 1 45 44]) (.seq (Ar [1,2,3] [Af 46 1 22,Al 47 46,Af 48 3 22,As 1 48 47]) (.seq (Ar [1,2,3] [Af 49 1 23,Al 50 49,Af 51 3 23,As 1 51 50]) (.seq (Ar [2,3] [Af 52 1 24,Al 53 52,Ac1 252 54 53,Af 55 3 24,As 1 55 54]) (.seq (Ar [2] [AL' 25 56 3,As 25 2 56]) .ret))))))))))))))))))
def pf255 : PF:=⟨[.b 2 25 true],[],pb255⟩

def pl256_0 : PC :=
.seq (.seq (Ar [0,3,4,11] [Am 8 4,Am 9 0,Az 10 9,Ab .lss 11 8 10]) (Aj 11 0)) (.seq (.blk 1 (Ar [0,3,4] [Am 14 3,Am 15 4,Am 16 0,Am 17 4,Ai 25 18 16 17,AL' 25 19 18,Ac1 255 20 19,Ai 25 21 14 15,As 25 21 20])) (Ar [0,3,4] [Am 12 4,Ae .add 13 12 1,Am 4 13]))
def pb256 : PC :=
.seq (Ar [0] [Ao 2 (.mv (.c (.nl 25)))]) (.seq (An1 [0,3] 7 3 [Am 5 0,Az 6 5,⟨some 7,.mks 25 288 [A2,A2,A2,.sl 3 [],A2,A2,A2,A2,A2,A2,A2,A3,.sl 7 [],A2,.sl 1 [],A2,A2,.sl 5 [],A2,A2,A2,A2,A2,.bool false,.sl 2 []] (.t 6),none⟩,Am 3 7]) (.seq (.seq (Ar [0,3,4] [Ak 4 0]) (.blk 0 (.loop pl256_0))) (.seq (Ar [2,3] [Am 22 3,Am 2 22]) .ret)))
def pf256 : PF:=⟨[.s 2],[],pb256⟩

def pb257 : PC :=
.seq (Ar [1,2] [Ao 1 (.box 3 (.t 0)),⟨some 2,.alloc [A0,A0,A1],none⟩]) (.seq (Ar [1,2,3] [⟨some 3,.alloc [A0,A0,A1],none⟩]) (.seq (Ar [1,2,3] [Af 4 1 0,Al 5 4,Af 6 3 0,As 1 6 5]) (.seq (Ar [1,2,3] [Af 7 1 1,Al 8 7,Af 9 3 1,As 1 9 8]) (.seq (Ar [2,3] [Af 10 1 2,Al 11 10,Af 12 3 2,As 1 12 11]) (.seq (Ar [2] [AL' 3 13 3,As 3 2 13]) .ret)))))
def pf257 : PF:=⟨[.b 2 3 true],[],pb257⟩

def pl258_0 : PC :=
.seq (.seq (Ar [0,3,4,11] [Am 8 4,Am 9 0,Az 10 9,Ab .lss 11 8 10]) (Aj 11 0)) (.seq (.blk 1 (Ar [0,3,4] [Am 14 3,Am 15 4,Am 16 0,Am 17 4,Ai 3 18 16 17,AL' 3 19 18,Ac1 257 20 19,Ai 3 21 14 15,As 3 21 20])) (Ar [0,3,4] [Am 12 4,Ae .add 13 12 1,Am 4 13]))
def pb258 : PC :=
.seq (Ar [0] [Ao 2 (.mv (.c (.nl 3)))]) (.seq (An1 [0,3] 7 3 [Am 5 0,Az 6 5,⟨some 7,.mks 3 32 [A2,A2,A3] (.t 6),none⟩,Am 3 7]) (.seq (.seq (Ar [0,3,4] [Ak 4 0]) (.blk 0 (.loop pl258_0))) (.seq (Ar [2,3] [Am 22 3,Am 2 22]) .ret)))
def pf258 : PF:=⟨[.s 2],[],pb258⟩

def pb259 : PC :=
.seq (Ar [1,2] [Ao 1 (.box 14 (.t 0)),Ao 2 (.alloc [(.nl 1),A0,A0,A0,A0,A0,A0,(.nl 5),(.nl 5),(.nl 1),(.nl 3),(.nl 1),(.nl 25),(.nl 25)])]) (.seq (Ar [1,2,3] [Ao 3 (.alloc [(.nl 1),A0,A0,A0,A0,A0,A0,(.nl 5),(.nl 5),(.nl 1),(.nl 3),(.nl 1),(.nl 25),(.nl 25)])]) (.seq (Ar [1,2,3] [Af 4 1 0,AL' 3 5 4,Ac1 238 6 5,Af 7 3 0,As 3 7 6]) (.seq (Ar [1,2,3] [Af 8 1 3,Al 9 8,Af 10 3 3,As 1 10 9]) (.seq (Ar [1,2,3] [Af 11 1 4,Al 12 11,Af 13 3 4,As 1 13 12]) (.seq (Ar [1,2,3] [Af 14 1 5,Al 15 14,Af 16 3 5,As 1 16 15]) (.seq (Ar [1,2,3] [Af 17 1 6,AL' 2 18 17,Ac1 243 19 18,Af 20 3 6,As 2 20 19]) (.seq (Ar [1,2,3] [Af 21 1 8,Al 22 21,Ac1 235 23 22,Af 24 3 8,As 1 24 23]) (.seq (Ar [1,2,3] [Af 25 1 9,Al 26 25,Ac1 244 27 26,Af 28 3 9,As 1 28 27]) (.seq (Ar [1,2,3] [Af 29 1 10,Al 30 29,Ac1 240 31 30,Af 32 3 10,As 1 32 31]) (.seq (Ar [1,2,3] [Af 33 1 11,Al 34 33,Ac1 244 35 34,Af 36 3 11,As 1 36 35]) (.seq (Ar [1,2,3] [Af 37 1 12,Al 38 37,Ac1 256 39 38,Af 40 3 12,As 1 40 39]) (.seq (Ar [2,3] [Af 41 1 13,Al 42 41,Ac1 242 43 42,Af 44 3 13,As 1 44 43]) (.seq (Ar [2] [AL' 14 45 3,As 14 2 45]) .ret)))))))))))))
def pf259 : PF:=⟨[.b 2 14 true],[],pb259⟩

def pl268_0 : PC :=
.seq (.seq (Ar [0,3,7] [Am 4 3,Am 5 0,Az 6 5,Ab .lss 7 4 6]) (Aj 7 0)) (.seq (.blk 1 (.seq (Ar [0,3,15] [Am 10 0,Am 11 3,Ai 1 12 10 11,Al 13 12,Ao 14 (.call 377 [] [(.t 13),(Av 1),(Av 2)]),At 15 14]) (.cond (.t 15) (.seq (Ar [2] [Ao 2 (.mv (Aw false))]) .ret) .skip))) (Ar [0,3] [Am 8 3,Ae .add 9 8 1,Am 3 9]))
def pb268 : PC :=
.seq (Ar [0] [Ao 2 (.mv (Aw false))]) (.seq (.seq (Ar [0,3] [Ak 3 0]) (.blk 0 (.loop pl268_0))) (.seq (An1 [2] 18 2 [Am 16 0,Az 17 16,Ao 18 (.call 377 [] [(.t 17),(Av 1),(Av 3)]),Am 2 18]) .ret))
def pf268 : PF:=⟨[.s 2],[],pb268⟩

def pl298_0 : PC :=
.seq (.seq (Ar [0,1,5,14] [Am 11 5,Am 12 1,Az 13 12,Ab .lss 14 11 13]) (Aj 14 0)) (.seq (.blk 1 (.seq (Aq [0,1,5,34] [Am 17 1,Am 18 5,Ai 3 19 17 18,AL' 3 20 19,Ac1 341 21 20,At 22 21,Am 23 22,Ah 24 (.mv (.t 1)) 23,Ah 25 (.mv (.t 5)) 23,Ah 26 (.iad 3 (.t 24) (.t 25)) 23,Ah 27 (.fad (.t 26) 0) 23,Ah 28 (.ld false 1 (.t 27)) 23,Ah 29 (.mv (.t 0)) 23,Ah 30 (.mv (.t 5)) 23,Ah 31 (.iad 1 (.t 29) (.t 30)) 23,Ah 32 (.ld false 1 (.t 31)) 23,Ah 33 (.bin .neq (.t 28) (.t 32)) 23,Ap1 34 23 true 33]) (.cond (.t 34) (.seq (Ar [4] [Ao 4 (.mv (Aw false))]) .ret) .skip))) (Ar [0,1,5] [Am 15 5,Ae .add 16 15 1,Am 5 16]))
def pb298 : PC :=
.seq (Ar [0,1] [Ao 4 (.mv (Aw false))]) (.seq (.seq (Ar [0,1,10] [Am 6 0,Az 7 6,Am 8 1,Az 9 8,Ab .neq 10 7 9]) (.cond (.t 10) (.seq (Ar [4] [Ao 4 (.mv (Aw false))]) .ret) .skip)) (.seq (.seq (Ar [0,1,5] [Ak 5 0]) (.blk 0 (.loop pl298_0))) (.seq (Ar [4] [Ao 4 (.mv (Aw true))]) .ret)))
def pf298 : PF:=⟨[.s 4],[],pb298⟩

def pb340 : PC :=
.seq (Ar [2,3] [Ao 2 (.box 14 (.t 0)),Ao 3 (.box 5 (.t 1)),Ao 4 (.mv (Aw false))]) (.seq (.seq (Ar [2,3,13] [Af 6 3 0,Al 7 6,Af 8 2 8,Al 9 8,Az 10 9,Ae .sub 11 10 1,Ao 12 (.call 377 [] [(.t 7),(Av 0),(.t 11)]),At 13 12]) (.cond (.t 13) (.seq (Ar [4] [Ao 4 (.mv (Aw false))]) .ret) .skip)) (.seq (Ar [3,5] [Af 14 2 8,Al 15 14,Af 16 3 0,Al 17 16,Ai 5 18 15 17,AL' 5 19 18,Ao 5 (.alloc [A0,A0,A0,(.nl 2),(.nl 1)]),As 5 5 19]) (.seq (.seq (Ar [3,5,31] [Af 20 5 0,Al 21 20,Af 22 3 1,Al 23 22,Ab .neq 24 21 23,Am 25 24,Ah 26 (.fad (.t 5) 1) 25,Ah 27 (.ld false 1 (.t 26)) 25,Ah 28 (.fad (.t 3) 2) 25,Ah 29 (.ld false 1 (.t 28)) 25,Ah 30 (.bin .neq (.t 27) (.t 29)) 25,Ap1 31 25 true 30]) (.cond (.t 31) (.seq (Ar [4] [Ao 4 (.mv (Aw false))]) .ret) .skip)) (.seq (Ar [4] [Af 32 3 2,Al 33 32,Ae .neq 34 33 1,Am 35 34,Ah 36 (.fad (.t 5) 2) 35,Ah 37 (.fad (.t 36) 1) 35,Ah 38 (.ld false 1 (.t 37)) 35,Ah 39 (.len (.t 38)) 35,Ah 40 (.fad (.t 3) 4) 35,Ah 41 (.ld false 1 (.t 40)) 35,Ah 42 (.bin .eql (.t 39) (.t 41)) 35,Ap1 43 35 true 42,Am 4 43]) .ret))))
def pf340 : PF:=⟨[.s 4],[],pb340⟩

def pl341_0 : PC :=
.seq (.seq (Ar [1,3,23] [Am 15 3,Af 16 1 2,Al 17 16,Ao 18 (.lens (.t 17)),Ab .lss 19 15 18,Am 20 19,Ag 21 (.mv (.t 3)) 20,Ag 22 (.bin .leq (.t 21) (Av 6)) 20,Ap2 23 20 22 false]) (Aj 23 0)) (.seq (.blk 1 (.seq (Ar [1,3,41] [Af 26 1 2,Al 27 26,Am 28 3,Ao 29 (.idx (.t 27) (.t 28)),Ao 30 (.cvi .i64 (.t 29)),Ao 31 (.call 377 [] [(.t 30),(Av 97),(Av 122)]),At 32 31,Am 33 32,Ag 34 (.fad (.t 1) 2) 33,Ag 35 (.ld false 1 (.t 34)) 33,Ag 36 (.mv (.t 3)) 33,Ag 37 (.idx (.t 35) (.t 36)) 33,Ag 38 (.cvi .i64 (.t 37)) 33,Ag 39 (.call 377 [] [(.t 38),(Av 48),(Av 57)]) 33,Ag 40 (.un .not (.t 39)) 33,Ap2 41 33 40 false]) (.cond (.t 41) (.seq (Ar [2] [Ao 2 (.mv (Aw false))]) .ret) .skip))) (Ar [1,3] [Am 24 3,Ae .add 25 24 1,Am 3 25]))
def pb341 : PC :=
.seq (Ar [1] [Ao 1 (.box 3 (.t 0)),Ao 2 (.mv (Aw false))]) (.seq (.seq (Ar [1,6] [Af 4 1 0,Al 5 4,Ae .eql 6 5 1]) (.cond (.t 6) (.seq (An1 [2] 9 2 [Af 7 1 1,Al 8 7,Ac1 384 9 8,Am 10 9,Ag 11 (.fad (.t 1) 2) 10,Ag 12 (.ld false 1 (.t 11)) 10,⟨some 13,.bin .eql (.t 12) (.c A1),some (10,true)⟩,Ap2 14 10 13 false,Am 2 14]) .ret) .skip)) (.seq (.seq (Ar [1,3] [Ak 3 0]) (.blk 0 (.loop pl341_0))) (.seq (Ar [2] [Af 42 1 0,Al 43 42,Ae .eql 44 43 2,Am 45 44,Ag 46 (.fad (.t 1) 1) 45,Ag 47 (.ld false 1 (.t 46)) 45,Ag 48 (.bin .eql (.t 47) (Av 0)) 45,Ap2 49 45 48 false,Am 50 49,Ag 51 (.fad (.t 1) 2) 50,Ag 52 (.ld false 1 (.t 51)) 50,Ag 53 (.lens (.t 52)) 50,Ag 54 (.bin .leq (.t 53) (Av 6)) 50,Ap2 55 50 54 false,Am 2 55]) .ret)))
def pf341 : PF:=⟨[.s 2],[],pb341⟩

def pb377 : PC :=
.seq (Ar [0,1,2] [Ao 6 (.mv (Aw false))]) (.seq (Ar [6] [Am 7 0,Am 8 1,Ab .geq 9 7 8,Am 10 9,Ag 11 (.mv (.t 0)) 10,Ag 12 (.mv (.t 2)) 10,Ag 13 (.bin .leq (.t 11) (.t 12)) 10,Ap2 14 10 13 false,Am 6 14]) .ret)
def pf377 : PF:=⟨[.s 6],[],pb377⟩

def pb384 : PC :=
.seq (Ar [0] [Ao 2 (.mv (Aw false))]) (.seq (An1 [2] 4 2 [Am 3 0,Ao 4 (.call 377 [] [(.t 3),(Av (-1000000000)),(Av 1000000000)]),Am 2 4]) .ret)
def pf384 : PF:=⟨[.s 2],[],pb384⟩

def pb402 : PC :=
.seq (Ar [0,1] [Ao 4 (.mv (Aw false))]) (.seq (Ar [4] [Am 5 0,Ao 6 (.cvs (.t 5)),Am 7 1,Ao 8 (.cvs (.t 7)),Ab .eql 9 6 8,Am 4 9]) .ret)
def pf402 : PF:=⟨[.s 4],[],pb402⟩

def pb412 : PC :=
.seq (Ar [3,4,5] [Ao 3 (.box 14 (.t 0)),Ao 4 (.box 5 (.t 1)),Ao 5 (.box 10 (.t 2)),Ao 6 (.mv (Aw false))]) (.seq (Ar [3,4,5,7] [Ak 7 1048576]) (.seq (An1 [3,4,5,7] 14 7 [AL' 14 12 3,Am 13 7,Ac2 233 14 12 13,Am 7 14]) (.seq (.seq (Ar [3,4,5,7,16] [Am 15 7,Ae .lss 16 15 0]) (.cond (.t 16) (.seq (Ar [6] [Ao 6 (.mv (Aw true))]) .ret) .skip)) (.seq (An1 [3,4,5,7] 19 7 [AL' 10 17 5,Am 18 7,Ac2 222 19 17 18,Am 7 19]) (.seq (.seq (Ar [3,4,5,21] [Am 20 7,Ae .lss 21 20 0]) (.cond (.t 21) (.seq (Ar [6] [Ao 6 (.mv (Aw true))]) .ret) .skip)) (.seq (.reg [3,4,5,8] [(28,8)] [AL' 14 22 3,Ac1 259 23 22,AL' 5 24 4,Ac1 248 25 24,AL' 10 26 5,Ac1 247 27 26,Ac3 421 28 23 25 27,Am 8 28] (some [(1,2),(1,4),(3,4)])) (.seq (Ar [3,4,5,8,9] [AL' 14 29 3,Ac1 259 30 29,Ao 9 (.alloc [(.nl 1),A0,A0,A0,A0,A0,A0,(.nl 5),(.nl 5),(.nl 1),(.nl 3),(.nl 1),(.nl 25),(.nl 25)]),As 14 9 30]) (.seq (Ar [3,4,5,8,9,10] [AL' 10 31 5,Ac1 247 32 31,⟨some 10,.alloc [A0,A0,A0,A0,A0,A0,A1,(.nl 7),A0,(.nl 1)],none⟩,As 10 10 32]) (.seq (.reg [3,5,8,9,10,11] [(37,11)] [AL' 14 33 9,AL' 5 34 4,Ac1 248 35 34,AL' 10 36 10,Ac3 422 37 33 35 36,Am 11 37] (some [(0,2),(2,3)])) (.seq (.seq (Ar [3,5,9,10,40] [Am 38 11,Am 39 8,Ao 40 (.eqb true (.t 38) (.t 39))]) (.cond (.t 40) (.seq (Ar [6] [Ao 6 (.mv (Aw false))]) .ret) .skip)) (.seq (.seq (.reg [5,10,45] [] [AL' 14 41 9,AL' 14 42 3,Ac1 259 43 42,Ac2 167 44 41 43,At 45 44] (some [(0,2)])) (.cond (.t 45) (.seq (Ar [6] [Ao 6 (.mv (Aw false))]) .ret) .skip)) (.seq (.seq (.reg [50] [] [AL' 10 46 10,AL' 10 47 5,Ac1 247 48 47,Ac2 155 49 46 48,At 50 49] (some [(0,2)])) (.cond (.t 50) (.seq (Ar [6] [Ao 6 (.mv (Aw false))]) .ret) .skip)) (.seq (Ar [6] [Ao 6 (.mv (Aw true))]) .ret)))))))))))))
def pf412 : PF:=⟨[.s 6],[],pb412⟩

def pb421 : PC :=
.seq (Ar [3,4,5] [Ao 3 (.box 14 (.t 0)),Ao 4 (.box 5 (.t 1)),Ao 5 (.box 10 (.t 2)),Ao 6 (.mv (Aw false))]) (.seq (.reg [6] [(13,6)] [Af 7 4 2,Al 8 7,Ae .eql 9 8 2,Am 10 9,Ag 11 (.ld true 14 (.t 3)) 10,Ag 12 (.ld true 5 (.t 4)) 10,Ag 13 (.call 340 [] [(.t 11),(.t 12)]) 10,Ap2 14 10 13 false,Am 15 14,Ag 16 (.fad (.t 5) 1) 15,Ag 17 (.ld true 7 (.t 16)) 15,Ag 18 (.ld true 14 (.t 3)) 15,Ag 19 (.ld true 5 (.t 4)) 15,Ag 20 (.call 446 [] [(.t 18),(.t 19)]) 15,Ag 21 (.call 445 [] [(.t 20)]) 15,Ag 22 (.call 444 [] [(.t 17),(.t 21)]) 15,Ag 23 (.un .not (.t 22)) 15,Ap2 24 15 23 false,Am 6 24] (some [(10,13),(10,14)])) .ret)
def pf421 : PF:=⟨[.s 6],[],pb421⟩

def pb422 : PC :=
.seq (Ar [3,4,5] [Ao 3 (.box 14 (.t 0)),Ao 4 (.box 5 (.t 1)),Ao 5 (.box 10 (.t 2)),Ao 6 (.mv (Aw false))]) (.seq (.reg [6] [(13,6)] [Af 7 4 2,Al 8 7,Ae .eql 9 8 2,Am 10 9,Ag 11 (.ld true 14 (.t 3)) 10,Ag 12 (.ld true 5 (.t 4)) 10,Ag 13 (.call 59 [] [(.t 11),(.t 12)]) 10,Ap2 14 10 13 false,Am 15 14,Ag 16 (.fad (.t 5) 1) 15,Ag 17 (.ld true 7 (.t 16)) 15,Ag 18 (.ld true 14 (.t 3)) 15,Ag 19 (.ld true 5 (.t 4)) 15,Ag 20 (.call 449 [] [(.t 18),(.t 19)]) 15,Ag 21 (.call 448 [] [(.t 20)]) 15,Ag 22 (.call 447 [] [(.t 17),(.t 21)]) 15,Ag 23 (.un .not (.t 22)) 15,Ap2 24 15 23 false,Am 6 24] (some [(10,13),(10,14)])) .ret)
def pf422 : PF:=⟨[.s 6],[],pb422⟩

def pl444_0 : PC :=
.seq (.seq (Ar [1,2,6,54] [Am 50 6,Af 51 2 6,Al 52 51,Az 53 52,Ab .lss 54 50 53]) (Aj 54 3)) (.seq (.blk 4 (.seq (Ar [1,2,6,63] [Af 57 2 6,Al 58 57,Am 59 6,Ai 7 60 58 59,AL' 7 61 60,Am 62 1,Ac2 444 63 61 62]) (.cond (.t 63) (.seq (Ar [4] [Ao 4 (.mv (Aw true))]) .ret) .skip))) (Ar [1,2,6] [Am 55 6,Ae .add 56 55 1,Am 6 56]))
def pl444_1 : PC :=
.seq (.seq (Ar [1,2,5,37] [Am 33 5,Af 34 2 6,Al 35 34,Az 36 35,Ab .lss 37 33 36]) (Aj 37 1)) (.seq (.blk 2 (.seq (Ar [1,2,5,47] [Af 40 2 6,Al 41 40,Am 42 5,Ai 7 43 41 42,AL' 7 44 43,Am 45 1,Ac2 444 46 44 45,At 47 46]) (.cond (.t 47) (.seq (Ar [4] [Ao 4 (.mv (Aw false))]) .ret) .skip))) (Ar [1,2,5] [Am 38 5,Ae .add 39 38 1,Am 5 39]))
def pb444 : PC :=
.seq (Ar [1,2] [Ao 2 (.box 7 (.t 0)),Ao 4 (.mv (Aw false))]) (.seq (.seq (Ar [1,2,8] [Af 7 2 0,Al 8 7]) (.blk 0 (.seq (Ar [1,2,8,9] [Ae .eql 10 8 1,Am 9 10]) (.cond (.t 9) (.seq (Ar [4] [Ao 4 (.mv (Aw true))]) .ret) (.seq (Ar [1,2,8,11] [Ae .eql 12 8 2,Am 11 12]) (.cond (.t 11) (.seq (.reg [4,29] [(18,4)] [Af 13 2 1,Al 14 13,Am 15 1,Az 16 15,Ae .sub 17 16 1,Ao 18 (.call 377 [] [(.t 14),(Av 0),(.t 17)]),Am 19 18,Ag 20 (.fad (.t 2) 2) 19,Ag 21 (.ld false 1 (.t 20)) 19,Ag 22 (.mv (.t 1)) 19,Ag 23 (.fad (.t 2) 1) 19,Ag 24 (.ld false 1 (.t 23)) 19,Ag 25 (.iad 6 (.t 22) (.t 24)) 19,Ag 26 (.ld true 6 (.t 25)) 19,Ag 27 (.fad (.t 2) 3) 19,Ag 28 (.ld true 3 (.t 27)) 19,Ag 29 (.call 474 [] [(.t 21),(.t 26),(.t 28)]) 19,Ap2 30 19 29 false,Am 4 30] (some [])) .ret) (.seq (Ar [1,2,8,31] [Ae .eql 32 8 3,Am 31 32]) (.cond (.t 31) (.seq (.seq (Ar [1,2,5] [Ak 5 0]) (.blk 1 (.loop pl444_1))) (.seq (Ar [4] [Ao 4 (.mv (Aw true))]) .ret)) (.seq (Ar [1,2,8,48] [Ae .eql 49 8 4,Am 48 49]) (.cond (.t 48) (.seq (.seq (Ar [1,2,6] [Ak 6 0]) (.blk 3 (.loop pl444_0))) (.seq (Ar [4] [Ao 4 (.mv (Aw false))]) .ret)) (.seq (Ar [1,2,64] [Ae .eql 65 8 5,Am 64 65]) (.cond (.t 64) (.seq (An1 [4] 76 4 [Af 66 2 6,Al 67 66,Az 68 67,Ae .eql 69 68 0,Am 70 69,Ah 71 (.fad (.t 2) 6) 70,Ah 72 (.ld false 1 (.t 71)) 70,Ah 73 (.iad 7 (.t 72) (Av 0)) 70,Ah 74 (.ld true 7 (.t 73)) 70,Ah 75 (.mv (.t 1)) 70,Ah 76 (.call 475 [] [(.t 74),(.t 75)]) 70,Ap1 77 70 true 76,Am 4 77]) .ret) .skip)))))))))))) (.seq (Ar [4] [Ao 4 (.mv (Aw false))]) .ret))
def pf444 : PF:=⟨[.s 4],[],pb444⟩

def pl445_0 : PC :=
.seq (.seq (Ar [0,3,4,16] [Am 10 4,Am 11 0,Ao 12 (.iad 2 (.t 11) (Av 0)),Af 13 12 1,Al 14 13,Az 15 14,Ab .lss 16 10 15]) (Aj 16 0)) (.seq (.blk 1 (An1 [0,3,4] 25 3 [Am 19 3,Am 20 0,Am 21 4,Ac2 477 22 20 21,Ac1 476 23 22,⟨some 24,.bsl 6 [A2,A2,A3,A2,A2,A3] 1 [(0,(.t 23))],none⟩,Ao 25 (.app 6 64 (.t 19) (.t 24)),Am 3 25])) (Ar [0,3,4] [Am 17 4,Ae .add 18 17 1,Am 4 18]))
def pb445 : PC :=
.seq (Ar [0] [Ao 2 (.mv (.c (.nl 6)))]) (.seq (An1 [0,3] 5 3 [Ao 5 (.bsl 6 [] 0 []),Am 3 5]) (.seq (.seq (Ar [0,3,8] [Am 6 0,Az 7 6,Ae .eql 8 7 0]) (.cond (.t 8) (.seq (Ar [2,3] [Am 9 3,Am 2 9]) .ret) .skip)) (.seq (.seq (Ar [0,3,4] [Ak 4 0]) (.blk 0 (.loop pl445_0))) (.seq (Ar [2,3] [Am 26 3,Am 2 26]) .ret))))
def pf445 : PF:=⟨[.s 2],[],pb445⟩

def pb446 : PC :=
.seq (Ar [2,3] [Ao 2 (.box 14 (.t 0)),Ao 3 (.box 5 (.t 1)),Ao 4 (.mv (.c (.nl 2)))]) (.seq (.reg [5] [(18,5)] [Af 8 2 0,Af 9 8 0,Al 10 9,Af 11 2 8,Al 12 11,Af 13 3 0,Al 14 13,Ai 5 15 12 14,Af 16 15 4,Al 17 16,Ac2 462 18 10 17,Am 7 18,Ax 19 7 0,Ax 20 7 1,Am 5 19,Am 6 20] (some [])) (.seq (Ar [4,5] [Am 21 5,Am 4 21]) .ret))
def pf446 : PF:=⟨[.s 4],[],pb446⟩

def pl447_0 : PC :=
.seq (Ar [1,2,54,55,56,57] [Ab .lss 57 56 55]) (.seq (Aj 57 3) (.seq (.blk 4 (.seq (Ar [1,2,8,54,55,56] [Ai 7 58 54 56,AL' 7 59 58,⟨some 8,.alloc [A0,A0,A0,A0,A0,A1,(.nl 7)],none⟩,As 7 8 59]) (.seq (Ar [1,2,54,55,56,62] [AL' 7 60 8,Am 61 1,Ac2 447 62 60 61]) (.cond (.t 62) (.seq (Ar [4] [Ao 4 (.mv (Aw true))]) .ret) .skip)))) (Ar [1,2,54,55,56] [Ae .add 63 56 1,Am 56 63])))
def pl447_1 : PC :=
.seq (Ar [1,2,40,41,42,43] [Ab .lss 43 42 41]) (.seq (Aj 43 1) (.seq (.blk 2 (.seq (Ar [1,2,6,40,41,42] [Ai 7 44 40 42,AL' 7 45 44,⟨some 6,.alloc [A0,A0,A0,A0,A0,A1,(.nl 7)],none⟩,As 7 6 45]) (.seq (Ar [1,2,40,41,42,49] [AL' 7 46 6,Am 47 1,Ac2 447 48 46 47,At 49 48]) (.cond (.t 49) (.seq (Ar [4] [Ao 4 (.mv (Aw false))]) .ret) .skip)))) (Ar [1,2,40,41,42] [Ae .add 50 42 1,Am 42 50])))
def pb447 : PC :=
.seq (Ar [1,2] [Ao 2 (.box 7 (.t 0)),Ao 4 (.mv (Aw false))]) (.seq (.seq (Ar [1,2,10] [Af 9 2 0,Al 10 9]) (.blk 0 (.seq (Ar [1,2,10,11] [Ae .eql 12 10 1,Am 11 12]) (.cond (.t 11) (.seq (Ar [4] [Ao 4 (.mv (Aw true))]) .ret) (.seq (Ar [1,2,10,13] [Ae .eql 14 10 2,Am 13 14]) (.cond (.t 13) (.seq (.reg [4] [(35,4)] [Af 15 2 1,Al 16 15,Ae .geq 17 16 0,Am 18 17,Ag 19 (.fad (.t 2) 1) 18,Ag 20 (.ld false 1 (.t 19)) 18,Ag 21 (.mv (.t 1)) 18,Ag 22 (.len (.t 21)) 18,Ag 23 (.bin .lss (.t 20) (.t 22)) 18,Ap2 24 18 23 false,Am 25 24,Ag 26 (.fad (.t 2) 2) 25,Ag 27 (.ld false 1 (.t 26)) 25,Ag 28 (.mv (.t 1)) 25,Ag 29 (.fad (.t 2) 1) 25,Ag 30 (.ld false 1 (.t 29)) 25,Ag 31 (.iad 6 (.t 28) (.t 30)) 25,Ag 32 (.ld true 6 (.t 31)) 25,Ag 33 (.fad (.t 2) 3) 25,Ag 34 (.ld true 3 (.t 33)) 25,Ag 35 (.call 478 [] [(.t 27),(.t 32),(.t 34)]) 25,Ap2 36 25 35 false,Am 4 36] (some [])) .ret) (.seq (Ar [1,2,10,37] [Ae .eql 38 10 3,Am 37 38]) (.cond (.t 37) (.seq (.seq (Ar [1,2,40,41,42] [Af 39 2 6,Al 40 39,Az 41 40,Ak 42 0]) (.blk 1 (.loop pl447_1))) (.seq (Ar [4] [Ao 4 (.mv (Aw true))]) .ret)) (.seq (Ar [1,2,10,51] [Ae .eql 52 10 4,Am 51 52]) (.cond (.t 51) (.seq (Ar [1,2,54,55,56] [Af 53 2 6,Al 54 53,Az 55 54,Ak 56 0]) (.blk 3 (.loop pl447_0))) (.seq (Ar [1,2,64] [Ae .eql 65 10 5,Am 64 65]) (.cond (.t 64) (.seq (An1 [4] 76 4 [Af 66 2 6,Al 67 66,Az 68 67,Ae .eql 69 68 0,Am 70 69,Ah 71 (.fad (.t 2) 6) 70,Ah 72 (.ld false 1 (.t 71)) 70,Ah 73 (.iad 7 (.t 72) (Av 0)) 70,Ah 74 (.ld true 7 (.t 73)) 70,Ah 75 (.mv (.t 1)) 70,Ah 76 (.call 479 [] [(.t 74),(.t 75)]) 70,Ap1 77 70 true 76,Am 4 77]) .ret) .skip)))))))))))) (.seq (Ar [4] [Ao 4 (.mv (Aw false))]) .ret))
def pf447 : PF:=⟨[.s 4],[],pb447⟩

def pl448_0 : PC :=
.seq (Ar [0,3,14,15,16] [Ab .lss 16 15 14]) (.seq (Aj 16 0) (.seq (.blk 1 (.seq (Ar [0,3,4,14,15] [Am 17 15,Am 4 17]) (An1 [0,3,14,15] 24 3 [Am 18 3,Am 19 0,Am 20 4,Ac2 481 21 19 20,Ac1 480 22 21,⟨some 23,.bsl 6 [A2,A2,A3,A2,A2,A3] 1 [(0,(.t 22))],none⟩,Ao 24 (.app 6 64 (.t 18) (.t 23)),Am 3 24]))) (Ar [0,3,14,15] [Ae .add 25 15 1,Am 15 25])))
def pb448 : PC :=
.seq (Ar [0] [Ao 2 (.mv (.c (.nl 6)))]) (.seq (An1 [0,3] 5 3 [Ao 5 (.bsl 6 [] 0 []),Am 3 5]) (.seq (.seq (Ar [0,3,8] [Am 6 0,Az 7 6,Ae .eql 8 7 0]) (.cond (.t 8) (.seq (Ar [2,3] [Am 9 3,Am 2 9]) .ret) .skip)) (.seq (.seq (Ar [0,3,14,15] [Am 10 0,Ao 11 (.iad 2 (.t 10) (Av 0)),Af 12 11 1,Al 13 12,Az 14 13,Ak 15 0]) (.blk 0 (.loop pl448_0))) (.seq (Ar [2,3] [Am 26 3,Am 2 26]) .ret))))
def pf448 : PF:=⟨[.s 2],[],pb448⟩

def pb449 : PC :=
.seq (Ar [2,3] [Ao 2 (.box 14 (.t 0)),Ao 3 (.box 5 (.t 1)),Ao 4 (.mv (.c (.nl 2)))]) (.seq (.seq (Ar [2,3,15] [Af 7 3 2,Al 8 7,Ae .neq 9 8 2,Am 10 9,Ah 11 (.ld true 14 (.t 2)) 10,Ah 12 (.ld true 5 (.t 3)) 10,Ah 13 (.call 59 [] [(.t 11),(.t 12)]) 10,Ah 14 (.un .not (.t 13)) 10,Ap1 15 10 true 14]) (.cond (.t 15) (.seq (Ar [4] [Ao 4 (.mv (.c (.nl 2)))]) .ret) .skip)) (.seq (.reg [5] [(27,5)] [Af 17 2 0,Af 18 17 0,Al 19 18,Af 20 2 8,Al 21 20,Af 22 3 0,Al 23 22,Ai 5 24 21 23,Af 25 24 4,Al 26 25,Ac2 463 27 19 26,Am 16 27,Ax 28 16 0,Ax 29 16 1,Am 5 28,Am 6 29] (some [])) (.seq (Ar [4,5] [Am 30 5,Am 4 30]) .ret)))
def pf449 : PF:=⟨[.s 4],[],pb449⟩

def pl462_0 : PC :=
.seq (.seq (Ar [0,1,6,7,10,12,13,14,16,18,106] [Am 103 18,Am 104 7,Az 105 104,Ab .lss 106 103 105]) (Aj 106 4)) (.seq (.blk 5 (.reg [0,1,6,7,10,12,13,14,16,18] [] [Am 109 10,Am 110 18,Am 111 10,Am 112 18,Ai 2 113 111 112,Af 114 113 1,Al 115 114,Am 116 16,Am 117 18,Ai 3 118 116 117,AL' 3 119 118,⟨some 120,.bsl 3 [A2,A2,A3] 1 [(0,(.t 119))],none⟩,Ao 121 (.app 3 32 (.t 115) (.t 120)),Ai 2 122 109 110,Af 123 122 1,As 1 123 121] (some [(4,11),(6,11)]))) (Ar [0,1,6,7,10,12,13,14,16,18] [Am 107 18,Ae .add 108 107 1,Am 18 108]))
def pl462_1 : PC :=
.seq (.seq (Ar [0,1,6,7,8,10,12,62] [Am 54 12,Am 55 0,Az 56 55,Ab .lss 57 54 56,Am 58 57,Ag 59 (.mv (.t 7)) 58,Ag 60 (.len (.t 59)) 58,Ag 61 (.bin .gtr (.t 60) (Av 0)) 58,Ap2 62 58 61 false]) (Aj 62 2)) (.seq (.blk 3 (.seq (An1 [0,1,6,7,10,12,13,14,15] 68 13 [Am 66 1,Am 67 8,Ac2 491 68 66 67,Am 65 68,Ax 69 65 0,Ax 70 65 1,Ax 71 65 2,Am 13 69,Am 14 70,Am 15 71]) (.seq (.seq (Ar [0,1,6,7,10,12,13,14,82] [Am 72 15,At 73 72,Am 74 73,Ah 75 (.mv (.t 13)) 74,Ah 76 (.mv (.t 1)) 74,Ah 77 (.len (.t 76)) 74,Ah 78 (.mv (.t 14)) 74,Ah 79 (.bin .sub (.t 77) (.t 78)) 74,Ah 80 (.call 377 [] [(.t 75),(Av 0),(.t 79)]) 74,Ah 81 (.un .not (.t 80)) 74,Ap1 82 74 true 81]) (.cond (.t 82) (.seq (Ar [4,5,6] [Am 83 6,Am 4 83,Ao 5 (.mv (Aw false))]) .ret) .skip)) (.seq (.reg [0,1,6,7,10,12,13,14,16,17] [(97,16)] [Am 85 1,Am 86 14,Am 87 14,Am 88 13,Ab .add 89 87 88,Ao 90 (.slc 1 (.t 85) (some (.t 86)) (some (.t 89))),Am 91 0,Am 92 12,Ai 1 93 91 92,Al 94 93,Am 95 7,Az 96 95,Ac3 492 97 90 94 96,Am 84 97,Ax 98 84 0,Ax 99 84 1,Am 16 98,Am 17 99] (some [])) (.seq (.seq (Ar [0,1,6,7,10,12,13,14,16,101] [Am 100 17,At 101 100]) (.cond (.t 101) (.seq (Ar [4,5,6] [Am 102 6,Am 4 102,Ao 5 (.mv (Aw false))]) .ret) .skip)) (.seq (.seq (Ar [0,1,6,7,10,12,13,14,16,18] [Ak 18 0]) (.blk 4 (.loop pl462_0))) (Ar [0,1,6,7,8,10,12] [Am 124 14,Am 125 13,Ab .add 126 124 125,Am 8 126]))))))) (Ar [0,1,6,7,8,10,12] [Am 63 12,Ae .add 64 63 1,Am 12 64]))
def pl462_2 : PC :=
.seq (.seq (Ar [0,1,6,7,8,10,11,43] [Am 40 11,Am 41 7,Az 42 41,Ab .lss 43 40 42]) (Aj 43 0)) (.seq (.blk 1 (An1 [0,1,6,7,8,10,11] 53 10 [Am 46 10,Am 47 7,Am 48 11,Ai 1 49 47 48,Al 50 49,Ao 51 (.build [A0,(.nl 3)] [(0,1,(.t 50))]),Ao 52 (.bsl 2 [A2,.sl 3 []] 1 [(0,(.t 51))]),Ao 53 (.app 2 32 (.t 46) (.t 52)),Am 10 53])) (Ar [0,1,6,7,8,10,11] [Am 44 11,Ae .add 45 44 1,Am 11 45]))
def pb462 : PC :=
.seq (Ar [0,1] [Ao 4 (.mv (.c (.nl 2))),Ao 5 (.mv (Aw false))]) (.seq (An1 [0,1,6] 19 6 [Ao 19 (.bsl 2 [] 0 []),Am 6 19]) (.seq (An1 [0,1,6,7,8,9] 22 7 [Am 21 1,Ao 22 (.call 490 [] [(.t 21),(Av 0)]),Am 20 22,Ax 23 20 0,Ax 24 20 1,Ax 25 20 2,Am 7 23,Am 8 24,Am 9 25]) (.seq (.seq (Ar [0,1,6,7,8,37] [Am 26 9,At 27 26,Am 28 27,Ah 29 (.mv (.t 0)) 28,Ah 30 (.call 268 [] [(.t 29)]) 28,Ah 31 (.un .not (.t 30)) 28,Ap1 32 28 true 31,Am 33 32,Ah 34 (.mv (.t 7)) 33,Ah 35 (.len (.t 34)) 33,Ah 36 (.bin .gtr (.t 35) (Av 12)) 33,Ap1 37 33 true 36]) (.cond (.t 37) (.seq (Ar [4,5,6] [Am 38 6,Am 4 38,Ao 5 (.mv (Aw false))]) .ret) .skip)) (.seq (An1 [0,1,6,7,8,10] 39 10 [Ao 39 (.bsl 2 [] 0 []),Am 10 39]) (.seq (.seq (Ar [0,1,6,7,8,10,11] [Ak 11 0]) (.blk 0 (.loop pl462_2))) (.seq (.seq (Ar [0,1,6,7,8,10,12] [Ak 12 0]) (.blk 2 (.loop pl462_1))) (.seq (.seq (Ar [6,10,136] [Am 127 8,Am 128 1,Az 129 128,Ab .neq 130 127 129,Am 131 130,Ah 132 (.mv (.t 0)) 131,Ah 133 (.mv (.t 10)) 131,Ah 134 (.call 493 [] [(.t 132),(.t 133)]) 131,Ah 135 (.un .not (.t 134)) 131,Ap1 136 131 true 135]) (.cond (.t 136) (.seq (Ar [4,5,6] [Am 137 6,Am 4 137,Ao 5 (.mv (Aw false))]) .ret) .skip)) (.seq (Ar [4,5,10] [Am 138 10,Am 4 138,Ao 5 (.mv (Aw true))]) .ret))))))))
def pf462 : PF:=⟨[.s 4,.s 5],[],pb462⟩

def pl463_0 : PC :=
.seq (Ar [0,1,6,9,14,15,16,17,45,46,47,88,89,90] [Ab .lss 90 89 88]) (.seq (Aj 90 4) (.seq (.blk 5 (.seq (Ar [0,1,6,9,14,15,16,17,18,45,46,47,88,89] [Am 91 89,Am 18 91]) (.reg [0,1,6,9,14,15,16,17,45,46,47,88,89] [] [Am 92 9,Am 93 18,Am 94 9,Am 95 18,Ai 2 96 94 95,Af 97 96 1,Al 98 97,Am 99 17,Am 100 18,Ai 3 101 99 100,AL' 3 102 101,⟨some 103,.bsl 3 [A2,A2,A3] 1 [(0,(.t 102))],none⟩,Ao 104 (.app 3 32 (.t 98) (.t 103)),Ai 2 105 92 93,Af 106 105 1,As 1 106 104] (some [(4,11),(6,11)])))) (Ar [0,1,6,9,14,15,16,17,45,46,47,88,89] [Ae .add 107 89 1,Am 89 107])))
def pl463_1 : PC :=
.seq (Ar [0,1,6,7,9,45,46,47,48] [Ab .lss 48 47 46]) (.seq (Aj 48 2) (.seq (.blk 3 (.seq (Ar [0,1,6,7,9,13,45,46,47] [Ai 1 49 45 47,Al 50 49,Am 13 50]) (.seq (.seq (Ar [0,1,6,7,9,13,45,46,47,53] [Am 51 6,Az 52 51,Ae .eql 53 52 0]) (.cond (.t 53) (.exit 2) .skip)) (.seq (An1 [0,1,6,9,13,14,15,16,45,46,47] 57 14 [Am 55 1,Am 56 7,Ac2 495 57 55 56,Am 54 57,Ax 58 54 0,Ax 59 54 1,Ax 60 54 2,Am 14 58,Am 15 59,Am 16 60]) (.seq (.seq (Ar [0,1,6,9,13,14,15,45,46,47,71] [Am 61 16,At 62 61,Am 63 62,Ah 64 (.mv (.t 14)) 63,Ah 65 (.mv (.t 1)) 63,Ah 66 (.len (.t 65)) 63,Ah 67 (.mv (.t 15)) 63,Ah 68 (.bin .sub (.t 66) (.t 67)) 63,Ah 69 (.call 87 [] [(.t 64),(Av 0),(.t 68)]) 63,Ah 70 (.un .not (.t 69)) 63,Ap1 71 63 true 70]) (.cond (.t 71) (.seq (Ar [4,5] [Ao 4 (.mv (.c (.nl 2))),Ao 5 (.mv (Aw false))]) .ret) .skip)) (.seq (An1 [0,1,6,9,14,15,16,17,45,46,47] 82 16 [Am 73 1,Am 74 15,Am 75 15,Am 76 14,Ab .add 77 75 76,Ao 78 (.slc 1 (.t 73) (some (.t 74)) (some (.t 77))),Am 79 13,Am 80 6,Az 81 80,Ac3 496 82 78 79 81,Am 72 82,Ax 83 72 0,Ax 84 72 1,Am 17 83,Am 16 84]) (.seq (.seq (Ar [0,1,6,9,14,15,16,17,45,46,47,86] [Am 85 16,At 86 85]) (.cond (.t 86) (.seq (Ar [4,5] [Ao 4 (.mv (.c (.nl 2))),Ao 5 (.mv (Aw false))]) .ret) .skip)) (.seq (.seq (Ar [0,1,6,9,14,15,16,17,45,46,47,88,89] [Am 87 9,Az 88 87,Ak 89 0]) (.blk 4 (.loop pl463_0))) (Ar [0,1,6,7,9,45,46,47] [Am 108 15,Am 109 14,Ab .add 110 108 109,Am 7 110]))))))))) (Ar [0,1,6,7,9,45,46,47] [Ae .add 111 47 1,Am 47 111])))
def pl463_2 : PC :=
.seq (Ar [0,1,6,7,9,33,34,35,36] [Ab .lss 36 35 34]) (.seq (Aj 36 0) (.seq (.blk 1 (.seq (Ar [0,1,6,7,9,11,33,34,35] [Ai 1 37 33 35,Al 38 37,Am 11 38]) (An1 [0,1,6,7,9,33,34,35] 43 9 [Am 39 9,Am 40 11,Ao 41 (.build [A0,(.nl 3)] [(0,1,(.t 40))]),Ao 42 (.bsl 2 [A2,.sl 3 []] 1 [(0,(.t 41))]),Ao 43 (.app 2 32 (.t 39) (.t 42)),Am 9 43]))) (Ar [0,1,6,7,9,33,34,35] [Ae .add 44 35 1,Am 35 44])))
def pb463 : PC :=
.seq (Ar [0,1] [Ao 4 (.mv (.c (.nl 2))),Ao 5 (.mv (Aw false))]) (.seq (An1 [0,1,6,7,8] 21 6 [Am 20 1,Ao 21 (.call 494 [] [(.t 20),(Av 0)]),Am 19 21,Ax 22 19 0,Ax 23 19 1,Ax 24 19 2,Am 6 22,Am 7 23,Am 8 24]) (.seq (.seq (Ar [0,1,6,7,31] [Am 25 8,At 26 25,Am 27 26,Ah 28 (.mv (.t 0)) 27,Ah 29 (.call 12 [] [(.t 28)]) 27,Ah 30 (.un .not (.t 29)) 27,Ap1 31 27 true 30]) (.cond (.t 31) (.seq (Ar [4,5] [Ao 4 (.mv (.c (.nl 2))),Ao 5 (.mv (Aw false))]) .ret) .skip)) (.seq (An1 [0,1,6,7,9] 32 9 [Ao 32 (.bsl 2 [] 0 []),Am 9 32]) (.seq (.seq (Ar [0,1,6,7,9,33,34,35] [Am 33 6,Az 34 33,Ak 35 0]) (.blk 0 (.loop pl463_2))) (.seq (.seq (Ar [0,1,6,7,9,45,46,47] [Am 45 0,Az 46 45,Ak 47 0]) (.blk 2 (.loop pl463_1))) (.seq (.seq (Ar [9,123] [Am 112 0,Am 113 9,Ac2 497 114 112 113,At 115 114,Am 116 115,Ah 117 (.mv (.t 0)) 116,Ah 118 (.mv (.t 9)) 116,Ah 119 (.call 498 [] [(.t 117),(.t 118)]) 116,Ah 120 (.mv (.t 1)) 116,Ah 121 (.call 1 [] [(.t 119),(.t 120)]) 116,Ah 122 (.un .not (.t 121)) 116,Ap1 123 116 true 122]) (.cond (.t 123) (.seq (Ar [4,5] [Ao 4 (.mv (.c (.nl 2))),Ao 5 (.mv (Aw false))]) .ret) .skip)) (.seq (Ar [4,5,9] [Am 124 9,Am 4 124,Ao 5 (.mv (Aw true))]) .ret)))))))
def pf463 : PF:=⟨[.s 4,.s 5],[],pb463⟩

def pb474 : PC :=
.seq (Ar [0,4,5] [Ao 4 (.box 6 (.t 1)),Ao 5 (.box 3 (.t 2)),Ao 6 (.mv (Aw false))]) (.seq (.seq (Ar [4,5,7] [Am 7 0]) (.blk 0 (.seq (Ar [4,5,7,8] [Ae .eql 9 7 1,Am 8 9]) (.cond (.t 8) (.seq (An1 [6] 13 6 [Af 10 4 0,AL' 3 11 10,AL' 3 12 5,Ac2 505 13 11 12,Am 6 13]) .ret) (.seq (Ar [4,5,7,14] [Ae .eql 15 7 2,Am 14 15]) (.cond (.t 14) (.seq (Ar [6] [AL' 3 16 5,Af 17 4 0,AL' 3 18 17,Ac2 505 19 16 18,At 20 19,Am 6 20]) .ret) (.seq (Ar [4,5,7,21] [Ae .eql 22 7 3,Am 21 22]) (.cond (.t 21) (.seq (An1 [6] 25 6 [AL' 6 23 4,AL' 3 24 5,Ac2 506 25 23 24,Am 6 25]) .ret) (.seq (Ar [4,5,7,26] [Ae .eql 27 7 4,Am 26 27]) (.cond (.t 26) (.seq (Ar [6] [Af 28 4 0,AL' 3 29 28,AL' 3 30 5,Ao 31 (.eqs true [0,0,2] (.t 29) (.t 30)),Am 32 31,Ah 33 (.fad (.t 4) 3) 32,Ah 34 (.ld true 3 (.t 33)) 32,Ah 35 (.ld true 3 (.t 5)) 32,Ah 36 (.eqs true [0,0,2] (.t 34) (.t 35)) 32,Ap1 37 32 true 36,Am 6 37]) .ret) (.seq (Ar [4,5,7,38] [Ae .eql 39 7 5,Am 38 39]) (.cond (.t 38) (.seq (Ar [6] [Af 40 4 3,AL' 3 41 40,AL' 3 42 5,Ac2 505 43 41 42,At 44 43,Am 6 44]) .ret) (.seq (Ar [4,5,45] [Ae .eql 46 7 6,Am 45 46]) (.cond (.t 45) (.seq (An1 [6] 50 6 [AL' 3 47 5,Af 48 4 3,AL' 3 49 48,Ac2 505 50 47 49,Am 6 50]) .ret) .skip)))))))))))))) (.seq (Ar [6] [Ao 6 (.mv (Aw false))]) .ret))
def pf474 : PF:=⟨[.s 6],[],pb474⟩

def pl475_0 : PC :=
.seq (.seq (Ar [1,2,6,55] [Am 51 6,Af 52 2 6,Al 53 52,Az 54 53,Ab .lss 55 51 54]) (Aj 55 3)) (.seq (.blk 4 (.seq (Ar [1,2,6,65] [Af 58 2 6,Al 59 58,Am 60 6,Ai 7 61 59 60,AL' 7 62 61,Am 63 1,Ac2 475 64 62 63,At 65 64]) (.cond (.t 65) (.seq (Ar [4] [Ao 4 (.mv (Aw false))]) .ret) .skip))) (Ar [1,2,6] [Am 56 6,Ae .add 57 56 1,Am 6 57]))
def pl475_1 : PC :=
.seq (.seq (Ar [1,2,5,39] [Am 35 5,Af 36 2 6,Al 37 36,Az 38 37,Ab .lss 39 35 38]) (Aj 39 1)) (.seq (.blk 2 (.seq (Ar [1,2,5,48] [Af 42 2 6,Al 43 42,Am 44 5,Ai 7 45 43 44,AL' 7 46 45,Am 47 1,Ac2 475 48 46 47]) (.cond (.t 48) (.seq (Ar [4] [Ao 4 (.mv (Aw true))]) .ret) .skip))) (Ar [1,2,5] [Am 40 5,Ae .add 41 40 1,Am 5 41]))
def pb475 : PC :=
.seq (Ar [1,2] [Ao 2 (.box 7 (.t 0)),Ao 4 (.mv (Aw false))]) (.seq (.seq (Ar [1,2,8] [Af 7 2 0,Al 8 7]) (.blk 0 (.seq (Ar [1,2,8,9] [Ae .eql 10 8 1,Am 9 10]) (.cond (.t 9) (.seq (Ar [4] [Ao 4 (.mv (Aw false))]) .ret) (.seq (Ar [1,2,8,11] [Ae .eql 12 8 2,Am 11 12]) (.cond (.t 11) (.seq (.reg [4] [(31,4)] [Af 13 2 1,Al 14 13,Am 15 1,Az 16 15,Ae .sub 17 16 1,Ao 18 (.call 377 [] [(.t 14),(Av 0),(.t 17)]),At 19 18,Am 20 19,Ah 21 (.fad (.t 2) 2) 20,Ah 22 (.ld false 1 (.t 21)) 20,Ah 23 (.call 507 [] [(.t 22)]) 20,Ah 24 (.mv (.t 1)) 20,Ah 25 (.fad (.t 2) 1) 20,Ah 26 (.ld false 1 (.t 25)) 20,Ah 27 (.iad 6 (.t 24) (.t 26)) 20,Ah 28 (.ld true 6 (.t 27)) 20,Ah 29 (.fad (.t 2) 3) 20,Ah 30 (.ld true 3 (.t 29)) 20,Ah 31 (.call 474 [] [(.t 23),(.t 28),(.t 30)]) 20,Ap1 32 20 true 31,Am 4 32] (some [(10,13),(10,14),(10,15),(10,17)])) .ret) (.seq (Ar [1,2,8,33] [Ae .eql 34 8 3,Am 33 34]) (.cond (.t 33) (.seq (.seq (Ar [1,2,5] [Ak 5 0]) (.blk 1 (.loop pl475_1))) (.seq (Ar [4] [Ao 4 (.mv (Aw false))]) .ret)) (.seq (Ar [1,2,8,49] [Ae .eql 50 8 4,Am 49 50]) (.cond (.t 49) (.seq (.seq (Ar [1,2,6] [Ak 6 0]) (.blk 3 (.loop pl475_0))) (.seq (Ar [4] [Ao 4 (.mv (Aw true))]) .ret)) (.seq (Ar [1,2,66] [Ae .eql 67 8 5,Am 66 67]) (.cond (.t 66) (.seq (An1 [4] 78 4 [Af 68 2 6,Al 69 68,Az 70 69,Ae .eql 71 70 0,Am 72 71,Ah 73 (.fad (.t 2) 6) 72,Ah 74 (.ld false 1 (.t 73)) 72,Ah 75 (.iad 7 (.t 74) (Av 0)) 72,Ah 76 (.ld true 7 (.t 75)) 72,Ah 77 (.mv (.t 1)) 72,Ah 78 (.call 444 [] [(.t 76),(.t 77)]) 72,Ap1 79 72 true 78,Am 4 79]) .ret) .skip)))))))))))) (.seq (Ar [4] [Ao 4 (.mv (Aw true))]) .ret))
def pf475 : PF:=⟨[.s 4],[],pb475⟩

def pl476_0 : PC :=
.seq (.seq (Ar [0,2,3,4,9] [Am 6 4,Am 7 0,Az 8 7,Ab .lss 9 6 8]) (Aj 9 0)) (.seq (.blk 1 (.seq (.seq (.reg [0,2,3,4,22] [(21,22)] [Am 12 4,Ae .eql 13 12 0,Am 14 13,Ah 15 (.mv (.t 0)) 14,Ah 16 (.mv (.t 4)) 14,Ah 17 (.iad 3 (.t 15) (.t 16)) 14,Ah 18 (.ld true 3 (.t 17)) 14,Ah 19 (.fad (.t 3) 0) 14,Ah 20 (.ld true 3 (.t 19)) 14,Ah 21 (.call 505 [] [(.t 18),(.t 20)]) 14,Ap1 22 14 true 21] (some [])) (.cond (.t 22) (Ar [0,2,3,4] [Am 23 0,Am 24 4,Ai 3 25 23 24,AL' 3 26 25,Af 27 3 0,As 3 27 26]) .skip)) (.seq (.reg [0,2,3,4,38] [(37,38)] [Am 28 4,Ae .eql 29 28 0,Am 30 29,Ah 31 (.fad (.t 3) 3) 30,Ah 32 (.ld true 3 (.t 31)) 30,Ah 33 (.mv (.t 0)) 30,Ah 34 (.mv (.t 4)) 30,Ah 35 (.iad 3 (.t 33) (.t 34)) 30,Ah 36 (.ld true 3 (.t 35)) 30,Ah 37 (.call 505 [] [(.t 32),(.t 36)]) 30,Ap1 38 30 true 37] (some [])) (.cond (.t 38) (Ar [0,2,3,4] [Am 39 0,Am 40 4,Ai 3 41 39 40,AL' 3 42 41,Af 43 3 3,As 3 43 42]) .skip)))) (Ar [0,2,3,4] [Am 10 4,Ae .add 11 10 1,Am 4 11]))
def pb476 : PC :=
.seq (Ar [0,2] [⟨some 2,.alloc [A0,A0,A1,A0,A0,A1],none⟩]) (.seq (Ar [0,2,3] [⟨some 5,.build [A0,A0,A1,A0,A0,A1] [],none⟩,⟨some 3,.alloc [A0,A0,A1,A0,A0,A1],none⟩,As 6 3 5]) (.seq (.seq (Ar [0,2,3,4] [Ak 4 0]) (.blk 0 (.loop pl476_0))) (.seq (Ar [2] [AL' 6 44 3,As 6 2 44]) .ret)))
def pf476 : PF:=⟨[.b 2 6 true],[],pb476⟩

def pl477_0 : PC :=
.seq (.seq (Ar [0,1,5,6,11] [Am 8 6,Am 9 0,Az 10 9,Ab .lss 11 8 10]) (Aj 11 0)) (.seq (.blk 1 (.seq (Ar [0,1,5,6,22] [Am 14 1,Am 15 0,Am 16 6,Ai 2 17 15 16,Af 18 17 1,Al 19 18,Az 20 19,Ae .sub 21 20 1,Ao 22 (.call 377 [] [(.t 14),(Av 0),(.t 21)])]) (.cond (.t 22) (An1 [0,1,5,6] 33 5 [Am 23 5,Am 24 0,Am 25 6,Ai 2 26 24 25,Af 27 26 1,Al 28 27,Am 29 1,Ai 3 30 28 29,AL' 3 31 30,⟨some 32,.bsl 3 [A2,A2,A3] 1 [(0,(.t 31))],none⟩,Ao 33 (.app 3 32 (.t 23) (.t 32)),Am 5 33]) .skip))) (Ar [0,1,5,6] [Am 12 6,Ae .add 13 12 1,Am 6 13]))
def pb477 : PC :=
.seq (Ar [0,1] [Ao 4 (.mv (.c (.nl 3)))]) (.seq (An1 [0,1,5] 7 5 [Ao 7 (.bsl 3 [] 0 []),Am 5 7]) (.seq (.seq (Ar [0,1,5,6] [Ak 6 0]) (.blk 0 (.loop pl477_0))) (.seq (Ar [4,5] [Am 34 5,Am 4 34]) .ret)))
def pf477 : PF:=⟨[.s 4],[],pb477⟩

def pb478 : PC :=
.seq (Ar [0,4,5] [Ao 4 (.box 6 (.t 1)),Ao 5 (.box 3 (.t 2)),Ao 6 (.mv (Aw false))]) (.seq (.seq (Ar [4,5,7] [Am 7 0]) (.blk 0 (.seq (Ar [4,5,7,8] [Ae .eql 9 7 1,Am 8 9]) (.cond (.t 8) (.seq (An1 [6] 13 6 [Af 10 4 0,AL' 3 11 10,AL' 3 12 5,Ac2 508 13 11 12,Am 6 13]) .ret) (.seq (Ar [4,5,7,14] [Ae .eql 15 7 2,Am 14 15]) (.cond (.t 14) (.seq (Ar [6] [AL' 3 16 5,Af 17 4 0,AL' 3 18 17,Ac2 508 19 16 18,At 20 19,Am 6 20]) .ret) (.seq (Ar [4,5,7,21] [Ae .eql 22 7 3,Am 21 22]) (.cond (.t 21) (.seq (An1 [6] 25 6 [AL' 6 23 4,AL' 3 24 5,Ac2 509 25 23 24,Am 6 25]) .ret) (.seq (Ar [4,5,7,26] [Ae .eql 27 7 4,Am 26 27]) (.cond (.t 26) (.seq (Ar [6] [Af 28 4 0,AL' 3 29 28,AL' 3 30 5,Ao 31 (.eqs true [0,0,2] (.t 29) (.t 30)),Am 32 31,Ah 33 (.fad (.t 4) 3) 32,Ah 34 (.ld true 3 (.t 33)) 32,Ah 35 (.ld true 3 (.t 5)) 32,Ah 36 (.eqs true [0,0,2] (.t 34) (.t 35)) 32,Ap1 37 32 true 36,Am 6 37]) .ret) (.seq (Ar [4,5,7,38] [Ae .eql 39 7 5,Am 38 39]) (.cond (.t 38) (.seq (Ar [6] [Af 40 4 3,AL' 3 41 40,AL' 3 42 5,Ac2 508 43 41 42,At 44 43,Am 6 44]) .ret) (.seq (Ar [4,5,45] [Ae .eql 46 7 6,Am 45 46]) (.cond (.t 45) (.seq (An1 [6] 50 6 [AL' 3 47 5,Af 48 4 3,AL' 3 49 48,Ac2 508 50 47 49,Am 6 50]) .ret) .skip)))))))))))))) (.seq (Ar [6] [Ao 6 (.mv (Aw false))]) .ret))
def pf478 : PF:=⟨[.s 6],[],pb478⟩

def pl479_0 : PC :=
.seq (Ar [1,2,68,69,70,71] [Ab .lss 71 70 69]) (.seq (Aj 71 3) (.seq (.blk 4 (.seq (Ar [1,2,8,68,69,70] [Ai 7 72 68 70,AL' 7 73 72,⟨some 8,.alloc [A0,A0,A0,A0,A0,A1,(.nl 7)],none⟩,As 7 8 73]) (.seq (Ar [1,2,68,69,70,77] [AL' 7 74 8,Am 75 1,Ac2 479 76 74 75,At 77 76]) (.cond (.t 77) (.seq (Ar [4] [Ao 4 (.mv (Aw false))]) .ret) .skip)))) (Ar [1,2,68,69,70] [Ae .add 78 70 1,Am 70 78])))
def pl479_1 : PC :=
.seq (Ar [1,2,55,56,57,58] [Ab .lss 58 57 56]) (.seq (Aj 58 1) (.seq (.blk 2 (.seq (Ar [1,2,6,55,56,57] [Ai 7 59 55 57,AL' 7 60 59,⟨some 6,.alloc [A0,A0,A0,A0,A0,A1,(.nl 7)],none⟩,As 7 6 60]) (.seq (Ar [1,2,55,56,57,63] [AL' 7 61 6,Am 62 1,Ac2 479 63 61 62]) (.cond (.t 63) (.seq (Ar [4] [Ao 4 (.mv (Aw true))]) .ret) .skip)))) (Ar [1,2,55,56,57] [Ae .add 64 57 1,Am 57 64])))
def pb479 : PC :=
.seq (Ar [1,2] [Ao 2 (.box 7 (.t 0)),Ao 4 (.mv (Aw false))]) (.seq (.seq (Ar [1,2,10] [Af 9 2 0,Al 10 9]) (.blk 0 (.seq (Ar [1,2,10,11] [Ae .eql 12 10 1,Am 11 12]) (.cond (.t 11) (.seq (Ar [4] [Ao 4 (.mv (Aw false))]) .ret) (.seq (Ar [1,2,10,13] [Ae .eql 14 10 2,Am 13 14]) (.cond (.t 13) (.seq (.reg [4] [(36,4)] [Af 15 2 1,Al 16 15,Ae .lss 17 16 0,Am 18 17,Ah 19 (.fad (.t 2) 1) 18,Ah 20 (.ld false 1 (.t 19)) 18,Ah 21 (.mv (.t 1)) 18,Ah 22 (.len (.t 21)) 18,Ah 23 (.bin .geq (.t 20) (.t 22)) 18,Ap1 24 18 true 23,Am 25 24,Ah 26 (.fad (.t 2) 2) 25,Ah 27 (.ld false 1 (.t 26)) 25,Ah 28 (.call 510 [] [(.t 27)]) 25,Ah 29 (.mv (.t 1)) 25,Ah 30 (.fad (.t 2) 1) 25,Ah 31 (.ld false 1 (.t 30)) 25,Ah 32 (.iad 6 (.t 29) (.t 31)) 25,Ah 33 (.ld true 6 (.t 32)) 25,Ah 34 (.fad (.t 2) 3) 25,Ah 35 (.ld true 3 (.t 34)) 25,Ah 36 (.call 478 [] [(.t 28),(.t 33),(.t 35)]) 25,Ap1 37 25 true 36,Am 4 37] (some [(13,16),(13,17),(13,18),(13,20)])) .ret) (.seq (Ar [1,2,10,38] [Ae .eql 39 10 5,Am 38 39]) (.cond (.t 38) (.seq (An1 [4] 50 4 [Af 40 2 6,Al 41 40,Az 42 41,Ae .eql 43 42 0,Am 44 43,Ah 45 (.fad (.t 2) 6) 44,Ah 46 (.ld false 1 (.t 45)) 44,Ah 47 (.iad 7 (.t 46) (Av 0)) 44,Ah 48 (.ld true 7 (.t 47)) 44,Ah 49 (.mv (.t 1)) 44,Ah 50 (.call 447 [] [(.t 48),(.t 49)]) 44,Ap1 51 44 true 50,Am 4 51]) .ret) (.seq (Ar [1,2,10,52] [Ae .eql 53 10 3,Am 52 53]) (.cond (.t 52) (.seq (.seq (Ar [1,2,55,56,57] [Af 54 2 6,Al 55 54,Az 56 55,Ak 57 0]) (.blk 1 (.loop pl479_1))) (.seq (Ar [4] [Ao 4 (.mv (Aw false))]) .ret)) (.seq (Ar [1,2,65] [Ae .eql 66 10 4,Am 65 66]) (.cond (.t 65) (.seq (Ar [1,2,68,69,70] [Af 67 2 6,Al 68 67,Az 69 68,Ak 70 0]) (.blk 3 (.loop pl479_0))) .skip)))))))))))) (.seq (Ar [4] [Ao 4 (.mv (Aw true))]) .ret))
def pf479 : PF:=⟨[.s 4],[],pb479⟩

def pl480_0 : PC :=
.seq (Ar [2,3,17,18,19,20] [Ab .lss 20 19 18]) (.seq (Aj 20 0) (.seq (.blk 1 (.seq (Ar [2,3,5,17,18,19] [Ai 3 21 17 19,AL' 3 22 21,⟨some 5,.alloc [A0,A0,A1],none⟩,As 3 5 22]) (.seq (.seq (Ar [2,3,5,17,18,19,26] [AL' 3 23 5,Af 24 3 0,AL' 3 25 24,Ac2 508 26 23 25]) (.cond (.t 26) (Ar [2,3,5,17,18,19] [AL' 3 27 5,Af 28 3 0,As 3 28 27]) .skip)) (.seq (Ar [2,3,5,17,18,19,32] [Af 29 3 3,AL' 3 30 29,AL' 3 31 5,Ac2 508 32 30 31]) (.cond (.t 32) (Ar [2,3,17,18,19] [AL' 3 33 5,Af 34 3 3,As 3 34 33]) .skip))))) (Ar [2,3,17,18,19] [Ae .add 35 19 1,Am 19 35])))
def pb480 : PC :=
.seq (Ar [0,2] [⟨some 2,.alloc [A0,A0,A1,A0,A0,A1],none⟩]) (.seq (.seq (Ar [0,2,8] [Am 6 0,Az 7 6,Ae .eql 8 7 0]) (.cond (.t 8) (.seq (Ar [2] [⟨some 9,.build [A0,A0,A1,A0,A0,A1] [],none⟩,As 6 2 9]) .ret) .skip)) (.seq (.reg [0,2,3] [] [Am 10 0,Ao 11 (.iad 3 (.t 10) (Av 0)),AL' 3 12 11,Am 13 0,Ao 14 (.iad 3 (.t 13) (Av 0)),AL' 3 15 14,⟨some 16,.build [A0,A0,A1,A0,A0,A1] [(0,3,(.t 12)),(3,3,(.t 15))],none⟩,⟨some 3,.alloc [A0,A0,A1,A0,A0,A1],none⟩,As 6 3 16] (some [(1,7),(2,7),(4,7),(5,7)])) (.seq (.seq (Ar [2,3,17,18,19] [Am 17 0,Az 18 17,Ak 19 0]) (.blk 0 (.loop pl480_0))) (.seq (Ar [2] [AL' 6 36 3,As 6 2 36]) .ret))))
def pf480 : PF:=⟨[.b 2 6 true],[],pb480⟩

def pl481_0 : PC :=
.seq (Ar [1,5,9,10,11,12] [Ab .lss 12 11 10]) (.seq (Aj 12 0) (.seq (.blk 1 (.seq (Ar [1,5,7,9,10,11] [Ai 2 13 9 11,AL' 2 14 13,Ao 7 (.alloc [A0,(.nl 3)]),As 2 7 14]) (.seq (Ar [1,5,7,9,10,11,23] [Am 15 1,Ae .geq 16 15 0,Am 17 16,Ag 18 (.mv (.t 1)) 17,Ag 19 (.fad (.t 7) 1) 17,Ag 20 (.ld false 1 (.t 19)) 17,Ag 21 (.len (.t 20)) 17,Ag 22 (.bin .lss (.t 18) (.t 21)) 17,Ap2 23 17 22 false]) (.cond (.t 23) (An1 [1,5,9,10,11] 31 5 [Am 24 5,Af 25 7 1,Al 26 25,Am 27 1,Ai 3 28 26 27,AL' 3 29 28,⟨some 30,.bsl 3 [A2,A2,A3] 1 [(0,(.t 29))],none⟩,Ao 31 (.app 3 32 (.t 24) (.t 30)),Am 5 31]) .skip)))) (Ar [1,5,9,10,11] [Ae .add 32 11 1,Am 11 32])))
def pb481 : PC :=
.seq (Ar [0,1] [Ao 4 (.mv (.c (.nl 3)))]) (.seq (An1 [0,1,5] 8 5 [Ao 8 (.bsl 3 [] 0 []),Am 5 8]) (.seq (.seq (Ar [1,5,9,10,11] [Am 9 0,Az 10 9,Ak 11 0]) (.blk 0 (.loop pl481_0))) (.seq (Ar [4,5] [Am 33 5,Am 4 33]) .ret)))
def pf481 : PF:=⟨[.s 4],[],pb481⟩

def pl490_0 : PC :=
.seq (.seq (Ar [0,7,8,10,11,33] [Am 31 11,Am 32 7,Ab .lss 33 31 32]) (Aj 33 0)) (.seq (.blk 1 (.seq (An1 [0,7,10,11,12,13,14] 39 12 [Am 37 0,Am 38 8,Ac2 491 39 37 38,Am 36 39,Ax 40 36 0,Ax 41 36 1,Ax 42 36 2,Am 12 40,Am 13 41,Am 14 42]) (.seq (.seq (Ar [0,7,10,11,12,13,44] [Am 43 14,At 44 43]) (.cond (.t 44) (.seq (An1 [4,5,6] 45 4 [Ao 45 (.bsl 1 [] 0 []),Am 4 45,Ak 5 0,Ao 6 (.mv (Aw false))]) .ret) .skip)) (.seq (An1 [0,7,10,11,12,13] 49 10 [Am 46 10,Am 47 12,Ao 48 (.bsl 1 [A2] 1 [(0,(.t 47))]),Ao 49 (.app 1 8 (.t 46) (.t 48)),Am 10 49]) (Ar [0,7,8,10,11,12] [Am 50 13,Am 8 50]))))) (Ar [0,7,8,10,11] [Am 34 11,Ae .add 35 34 1,Am 11 35]))
def pb490 : PC :=
.seq (Ar [0,1] [Ao 4 (.mv (.c (.nl 1))),Ak 5 0,Ao 6 (.mv (Aw false))]) (.seq (An1 [0,7,8,9] 18 7 [Am 16 0,Am 17 1,Ac2 491 18 16 17,Am 15 18,Ax 19 15 0,Ax 20 15 1,Ax 21 15 2,Am 7 19,Am 8 20,Am 9 21]) (.seq (.seq (Ar [0,7,8,28] [Am 22 9,At 23 22,Am 24 23,Ah 25 (.mv (.t 7)) 24,Ah 26 (.call 377 [] [(.t 25),(Av 0),(Av 64)]) 24,Ah 27 (.un .not (.t 26)) 24,Ap1 28 24 true 27]) (.cond (.t 28) (.seq (An1 [4,5,6] 29 4 [Ao 29 (.bsl 1 [] 0 []),Am 4 29,Ak 5 0,Ao 6 (.mv (Aw false))]) .ret) .skip)) (.seq (An1 [0,7,8,10] 30 10 [Ao 30 (.bsl 1 [] 0 []),Am 10 30]) (.seq (.seq (Ar [0,7,8,10,11] [Ak 11 0]) (.blk 0 (.loop pl490_0))) (.seq (Ar [4,5,6,7,10,12] [Am 51 10,Am 52 8,Am 4 51,Am 5 52,Ao 6 (.mv (Aw true))]) .ret)))))
def pf490 : PF:=⟨[.s 4,.s 5,.s 6],[],pb490⟩

def pl491_0 : PC :=
.seq (.seq (Ar [0,1,7,8,24] [Am 15 8,Ae .lss 16 15 5,Am 17 16,Ag 18 (.mv (.t 8)) 17,Ag 19 (.mv (.t 0)) 17,Ag 20 (.len (.t 19)) 17,Ag 21 (.mv (.t 1)) 17,Ag 22 (.bin .sub (.t 20) (.t 21)) 17,Ag 23 (.bin .lss (.t 18) (.t 22)) 17,Ap2 24 17 23 false]) (Aj 24 0)) (.seq (.blk 1 (.seq (An1 [0,1,7,8,9] 33 9 [Am 27 0,Am 28 1,Am 29 8,Ab .add 30 28 29,Ai 1 31 27 30,Al 32 31,Ao 33 (.cvi .i64 (.t 32)),Am 9 33]) (.seq (Ar [0,1,7,8,9] [Am 34 7,Am 35 9,Ae .and 36 35 127,Am 37 8,Ao 38 (.bin .mul (Av 7) (.t 37)),Ab .shl 39 36 38,Ab .or 40 34 39,Am 7 40]) (.seq (.seq (Ar [0,1,7,8,9,42] [Am 41 9,Ae .gtr 42 41 127]) (.cond (.t 42) (.exit 1) .skip)) (.seq (.seq (Ar [1,7,8,52] [Am 43 7,Ae .gtr 44 43 2000000000,Am 45 44,Ah 46 (.mv (.t 9)) 45,Ah 47 (.bin .eql (.t 46) (Av 0)) 45,Ah 48 (.mv (.t 47)) 45,Ag 49 (.mv (.t 8)) 48,Ag 50 (.bin .gtr (.t 49) (Av 0)) 48,Ah 51 (.pick (.t 48) (.t 50) (Aw false)) 45,Ap1 52 45 true 51]) (.cond (.t 52) (.seq (Ar [4,5,6] [Ak 4 0,Ak 5 0,Ao 6 (.mv (Aw false))]) .ret) .skip)) (.seq (An1 [4,5,6] 54 4 [Am 53 7,Ac1 513 54 53,Am 55 1,Am 56 8,Ab .add 57 55 56,Ae .add 58 57 1,Am 4 54,Am 5 58,Ao 6 (.mv (Aw true))]) .ret)))))) (Ar [0,1,7,8] [Am 25 8,Ae .add 26 25 1,Am 8 26]))
def pb491 : PC :=
.seq (Ar [0,1] [Ak 4 0,Ak 5 0,Ao 6 (.mv (Aw false))]) (.seq (.seq (Ar [0,1,14] [Am 10 1,Am 11 0,Az 12 11,Ao 13 (.call 377 [] [(.t 10),(Av 0),(.t 12)]),At 14 13]) (.cond (.t 14) (.seq (Ar [4,5,6] [Ak 4 0,Ak 5 0,Ao 6 (.mv (Aw false))]) .ret) .skip)) (.seq (Ar [0,1,7] [Ak 7 0]) (.seq (.seq (Ar [0,1,7,8] [Ak 8 0]) (.blk 0 (.loop pl491_0))) (.seq (Ar [4,5,6] [Ak 4 0,Ak 5 0,Ao 6 (.mv (Aw false))]) .ret))))
def pf491 : PF:=⟨[.s 4,.s 5,.s 6],[],pb491⟩

def pb492 : PC :=
.seq (Ar [0,1,2] [Ao 6 (.mv (.c (.nl 3))),Ao 7 (.mv (Aw false))]) (.seq (An1 [0,1,2,8] 11 8 [Ao 11 (.bsl 3 [] 0 []),Am 8 11]) (.seq (.seq (Ar [0,1,2,8,19] [Am 12 0,Az 13 12,Ae .eql 14 13 0,Am 15 14,Ah 16 (.mv (.t 1)) 15,Ah 17 (.call 377 [] [(.t 16),(Av 1),(Av 2)]) 15,Ah 18 (.un .not (.t 17)) 15,Ap1 19 15 true 18]) (.cond (.t 19) (.seq (Ar [6,7,8] [Am 20 8,Am 6 20,Ao 7 (.mv (Aw false))]) .ret) .skip)) (.seq (Ar [0,1,2,8,9] [Am 21 8,Am 9 21]) (.seq (Ar [0,1,2,8,9,10] [Ao 10 (.mv (Aw false))]) (.seq (.seq (Ar [0,1,2,8,9,10,25] [Am 22 0,Ao 23 (.iad 1 (.t 22) (Av 0)),Al 24 23,Ao 25 (.cvi .i64 (.t 24))]) (.blk 0 (.seq (Ar [0,1,2,8,9,10,25,26] [Ae .eql 27 25 0,Am 26 27]) (.cond (.t 26) (An1 [0,1,8,9,10] 33 9 [Am 29 0,Ao 30 (.slc 1 (.t 29) (some (Av 1)) none),Am 31 1,Am 32 2,Ac3 514 33 30 31 32,Am 28 33,Ax 34 28 0,Ax 35 28 1,Am 9 34,Am 10 35]) (.seq (Ar [0,1,2,8,9,10,25,36] [Ae .eql 37 25 1,Am 36 37]) (.cond (.t 36) (An1 [0,1,8,9,10] 43 9 [Am 39 0,Ao 40 (.slc 1 (.t 39) (some (Av 1)) none),Am 41 1,Am 42 2,Ac3 515 43 40 41 42,Am 38 43,Ax 44 38 0,Ax 45 38 1,Am 9 44,Am 10 45]) (.seq (Ar [0,1,2,8,9,10,25,46] [Ae .eql 47 25 2,Am 46 47]) (.cond (.t 46) (An1 [0,1,8,9,10] 53 9 [Am 49 0,Ao 50 (.slc 1 (.t 49) (some (Av 1)) none),Am 51 1,Am 52 2,Ac3 516 53 50 51 52,Am 48 53,Ax 54 48 0,Ax 55 48 1,Am 9 54,Am 10 55]) (.seq (Ar [0,1,2,8,9,10,56] [Ae .eql 57 25 3,Am 56 57]) (.cond (.t 56) (An1 [0,1,8,9,10] 62 9 [Am 59 0,Ao 60 (.slc 1 (.t 59) (some (Av 1)) none),Am 61 2,Ac2 517 62 60 61,Am 58 62,Ax 63 58 0,Ax 64 58 1,Am 9 63,Am 10 64]) .skip)))))))))) (.seq (.seq (Ar [8,9,79] [Am 65 10,At 66 65,Am 67 66,Ah 68 (.mv (.t 9)) 67,Ah 69 (.call 518 [] [(.t 68)]) 67,Ah 70 (.mv (.t 1)) 67,Ah 71 (.bin .neq (.t 69) (.t 70)) 67,Ap1 72 67 true 71,Am 73 72,Ah 74 (.mv (.t 9)) 73,Ah 75 (.call 519 [] [(.t 74)]) 73,Ah 76 (.mv (.t 0)) 73,Ah 77 (.call 402 [] [(.t 75),(.t 76)]) 73,Ah 78 (.un .not (.t 77)) 73,Ap1 79 73 true 78]) (.cond (.t 79) (.seq (Ar [6,7,8] [Am 80 8,Am 6 80,Ao 7 (.mv (Aw false))]) .ret) .skip)) (.seq (Ar [6,7,8,9] [Am 81 9,Am 6 81,Ao 7 (.mv (Aw true))]) .ret)))))))
def pf492 : PF:=⟨[.s 6,.s 7],[],pb492⟩

def pl493_0 : PC :=
.seq (.seq (Ar [0,1,5,9] [Am 6 5,Am 7 1,Az 8 7,Ab .lss 9 6 8]) (Aj 9 0)) (.seq (.blk 1 (.seq (Aq [0,1,5,44] [Am 12 0,Am 13 1,Am 14 5,Ai 2 15 13 14,AL' 2 16 15,Ac2 520 17 12 16,At 18 17,Am 19 18,Ah 20 (.mv (.t 1)) 19,Ah 21 (.mv (.t 5)) 19,Ah 22 (.iad 2 (.t 20) (.t 21)) 19,Ah 23 (.fad (.t 22) 0) 19,Ah 24 (.ld false 1 (.t 23)) 19,Ah 25 (.bin .gtr (.t 24) (Av 1000000000)) 19,Ap1 26 19 true 25,Am 27 26,Ah 28 (.mv (.t 5)) 27,Ah 29 (.bin .gtr (.t 28) (Av 0)) 27,Ah 30 (.mv (.t 29)) 27,Ag 31 (.mv (.t 1)) 30,Ag 32 (.mv (.t 5)) 30,Ag 33 (.bin .sub (.t 32) (Av 1)) 30,Ag 34 (.iad 2 (.t 31) (.t 33)) 30,Ag 35 (.fad (.t 34) 0) 30,Ag 36 (.ld false 1 (.t 35)) 30,Ag 37 (.mv (.t 1)) 30,Ag 38 (.mv (.t 5)) 30,Ag 39 (.iad 2 (.t 37) (.t 38)) 30,Ag 40 (.fad (.t 39) 0) 30,Ag 41 (.ld false 1 (.t 40)) 30,Ag 42 (.bin .geq (.t 36) (.t 41)) 30,Ah 43 (.pick (.t 30) (.t 42) (Aw false)) 27,Ap1 44 27 true 43]) (.cond (.t 44) (.seq (Ar [4] [Ao 4 (.mv (Aw false))]) .ret) .skip))) (Ar [0,1,5] [Am 10 5,Ae .add 11 10 1,Am 5 11]))
def pb493 : PC :=
.seq (Ar [0,1] [Ao 4 (.mv (Aw false))]) (.seq (.seq (Ar [0,1,5] [Ak 5 0]) (.blk 0 (.loop pl493_0))) (.seq (An1 [4] 46 4 [Am 45 0,Ac1 268 46 45,Am 47 46,Ag 48 (.mv (.t 1)) 47,Ag 49 (.len (.t 48)) 47,Ag 50 (.bin .leq (.t 49) (Av 12)) 47,Ap2 51 47 50 false,Am 4 51]) .ret))
def pf493 : PF:=⟨[.s 4],[],pb493⟩

def pl494_0 : PC :=
.seq (.seq (Ar [0,1,7,9,10,31] [Am 29 10,Am 30 7,Ab .lss 31 29 30]) (Aj 31 0)) (.seq (.blk 1 (.seq (An1 [0,1,7,9,10,11,12,13] 37 11 [Am 35 0,Am 36 1,Ac2 495 37 35 36,Am 34 37,Ax 38 34 0,Ax 39 34 1,Ax 40 34 2,Am 11 38,Am 12 39,Am 13 40]) (.seq (.seq (Ar [0,1,7,9,10,11,12,42] [Am 41 13,At 42 41]) (.cond (.t 42) (.seq (Ar [4,5,6] [Ao 4 (.mv (.c (.nl 1))),Ak 5 0,Ao 6 (.mv (Aw false))]) .ret) .skip)) (.seq (An1 [0,1,7,9,10,11,12] 46 9 [Am 43 9,Am 44 11,Ao 45 (.bsl 1 [A2] 1 [(0,(.t 44))]),Ao 46 (.app 1 8 (.t 43) (.t 45)),Am 9 46]) (Ar [0,1,7,9,10,11] [Am 47 12,Am 1 47]))))) (Ar [0,1,7,9,10] [Am 32 10,Ae .add 33 32 1,Am 10 33]))
def pb494 : PC :=
.seq (Ar [0,1] [Ao 4 (.mv (.c (.nl 1))),Ak 5 0,Ao 6 (.mv (Aw false))]) (.seq (An1 [0,1,7,8] 17 1 [Am 15 0,Am 16 1,Ac2 495 17 15 16,Am 14 17,Ax 18 14 0,Ax 19 14 1,Ax 20 14 2,Am 7 18,Am 1 19,Am 8 20]) (.seq (.seq (Ar [0,1,7,27] [Am 21 8,At 22 21,Am 23 22,Ah 24 (.mv (.t 7)) 23,Ah 25 (.call 87 [] [(.t 24),(Av 0),(Av 64)]) 23,Ah 26 (.un .not (.t 25)) 23,Ap1 27 23 true 26]) (.cond (.t 27) (.seq (Ar [4,5,6] [Ao 4 (.mv (.c (.nl 1))),Ak 5 0,Ao 6 (.mv (Aw false))]) .ret) .skip)) (.seq (An1 [0,1,7,9] 28 9 [Ao 28 (.bsl 1 [] 0 []),Am 9 28]) (.seq (.seq (Ar [0,1,7,9,10] [Ak 10 0]) (.blk 0 (.loop pl494_0))) (.seq (Ar [1,4,5,6,9,11] [Am 48 9,Am 49 1,Am 4 48,Am 5 49,Ao 6 (.mv (Aw true))]) .ret)))))
def pf494 : PF:=⟨[.s 4,.s 5,.s 6],[],pb494⟩

def pl495_0 : PC :=
.seq (.seq (Ar [0,1,7,8,27] [Am 18 8,Ae .lss 19 18 5,Am 20 19,Ag 21 (.mv (.t 1)) 20,Ag 22 (.mv (.t 8)) 20,Ag 23 (.bin .add (.t 21) (.t 22)) 20,Ag 24 (.mv (.t 0)) 20,Ag 25 (.len (.t 24)) 20,Ag 26 (.bin .lss (.t 23) (.t 25)) 20,Ap2 27 20 26 false]) (Aj 27 0)) (.seq (.blk 1 (.seq (An1 [0,1,7,8,9] 36 9 [Am 30 0,Am 31 1,Am 32 8,Ab .add 33 31 32,Ai 1 34 30 33,Al 35 34,Ao 36 (.cvi .i64 (.t 35)),Am 9 36]) (.seq (Ar [0,1,7,8,9] [Am 37 7,Am 38 9,Ae .rem 39 38 128,Am 40 8,Ao 41 (.bin .mul (Av 7) (.t 40)),Ab .shl 42 39 41,Ab .add 43 37 42,Am 7 43]) (.seq (.seq (Ar [0,1,7,8,9,45] [Am 44 9,Ae .geq 45 44 128]) (.cond (.t 45) (.exit 1) .skip)) (.seq (.seq (Ar [1,7,8,55] [Am 46 8,Ae .gtr 47 46 0,Am 48 47,Ag 49 (.mv (.t 9)) 48,Ag 50 (.bin .eql (.t 49) (Av 0)) 48,Ap2 51 48 50 false,Am 52 51,Ah 53 (.mv (.t 7)) 52,Ah 54 (.bin .gtr (.t 53) (Av 2000000000)) 52,Ap1 55 52 true 54]) (.cond (.t 55) (.seq (Ar [4,5,6] [Ak 4 0,Ak 5 0,Ao 6 (.mv (Aw false))]) .ret) .skip)) (.seq (An1 [4,5,6] 57 4 [Am 56 7,Ac1 521 57 56,Am 58 1,Am 59 8,Ab .add 60 58 59,Ae .add 61 60 1,Am 4 57,Am 5 61,Ao 6 (.mv (Aw true))]) .ret)))))) (Ar [0,1,7,8] [Am 28 8,Ae .add 29 28 1,Am 8 29]))
def pb495 : PC :=
.seq (Ar [0,1] [Ak 4 0,Ak 5 0,Ao 6 (.mv (Aw false))]) (.seq (.seq (Ar [0,1,17] [Am 10 1,Ae .lss 11 10 0,Am 12 11,Ah 13 (.mv (.t 1)) 12,Ah 14 (.mv (.t 0)) 12,Ah 15 (.len (.t 14)) 12,Ah 16 (.bin .geq (.t 13) (.t 15)) 12,Ap1 17 12 true 16]) (.cond (.t 17) (.seq (Ar [4,5,6] [Ak 4 0,Ak 5 0,Ao 6 (.mv (Aw false))]) .ret) .skip)) (.seq (Ar [0,1,7] [Ak 7 0]) (.seq (.seq (Ar [0,1,7,8] [Ak 8 0]) (.blk 0 (.loop pl495_0))) (.seq (Ar [4,5,6] [Ak 4 0,Ak 5 0,Ao 6 (.mv (Aw false))]) .ret))))
def pf495 : PF:=⟨[.s 4,.s 5,.s 6],[],pb495⟩

def pb496 : PC :=
.seq (Ar [0,1,2] [Ao 6 (.mv (.c (.nl 3))),Ao 7 (.mv (Aw false))]) (.seq (.seq (Ar [0,1,2,11] [Am 9 0,Az 10 9,Ae .eql 11 10 0]) (.cond (.t 11) (.seq (Ar [6,7] [Ao 6 (.mv (.c (.nl 3))),Ao 7 (.mv (Aw false))]) .ret) .skip)) (.seq (Ar [0,1,2,8] [Ao 8 (.mv (.c (.nl 3)))]) (.seq (.seq (Ar [0,1,2,8,15] [Am 12 0,Ao 13 (.iad 1 (.t 12) (Av 0)),Al 14 13,Ao 15 (.cvi .i64 (.t 14))]) (.blk 0 (.seq (Ar [0,1,2,8,15,16] [Ae .eql 17 15 0,Am 16 17]) (.cond (.t 16) (An1 [0,1,2,8] 23 8 [Am 19 0,Ao 20 (.slc 1 (.t 19) (some (Av 1)) none),Am 21 1,Am 22 2,Ac3 522 23 20 21 22,Am 18 23,Ax 24 18 0,Ax 25 18 1,Am 8 24]) (.seq (Ar [0,1,2,8,15,26] [Ae .eql 27 15 1,Am 26 27]) (.cond (.t 26) (An1 [0,1,2,8] 33 8 [Am 29 0,Ao 30 (.slc 1 (.t 29) (some (Av 1)) none),Am 31 1,Am 32 2,Ac3 523 33 30 31 32,Am 28 33,Ax 34 28 0,Ax 35 28 1,Am 8 34]) (.seq (Ar [0,1,2,8,15,36] [Ae .eql 37 15 2,Am 36 37]) (.cond (.t 36) (An1 [0,1,2,8] 43 8 [Am 39 0,Ao 40 (.slc 1 (.t 39) (some (Av 1)) none),Am 41 1,Am 42 2,Ac3 524 43 40 41 42,Am 38 43,Ax 44 38 0,Ax 45 38 1,Am 8 44]) (.seq (Ar [0,1,2,8,46] [Ae .eql 47 15 3,Am 46 47]) (.cond (.t 46) (An1 [0,1,2,8] 52 8 [Am 49 0,Ao 50 (.slc 1 (.t 49) (some (Av 1)) none),Am 51 2,Ac2 525 52 50 51,Am 48 52,Ax 53 48 0,Ax 54 48 1,Am 8 53]) .skip)))))))))) (.seq (.seq (Ar [0,2,8,58] [Am 55 8,Ac1 526 56 55,Am 57 1,Ab .neq 58 56 57]) (.cond (.t 58) (.seq (Ar [6,7] [Ao 6 (.mv (.c (.nl 3))),Ao 7 (.mv (Aw false))]) .ret) .skip)) (.seq (An1 [6,7] 64 6 [Am 59 0,Am 60 2,Am 61 8,Am 62 8,Ac1 528 63 62,Ao 64 (.callm 527 2 [(.t 59),(.t 60),(.t 61),(.t 63)]),Ax 65 64 0,Ax 66 64 1,Am 6 65,Am 7 66]) .ret)))))
def pf496 : PF:=⟨[.s 6,.s 7],[],pb496⟩

def pl497_0 : PC :=
.seq (Ar [0,1,15,16,17,18] [Ab .lss 18 17 16]) (.seq (Aj 18 0) (.seq (.blk 1 (.seq (Ar [0,1,5,6,15,16,17] [Am 19 17,Ai 2 20 15 17,AL' 2 21 20,Ao 6 (.alloc [A0,(.nl 3)]),Am 5 19,As 2 6 21]) (.seq (Aq [0,1,15,16,17,45] [Am 22 0,AL' 2 23 6,Ac2 529 24 22 23,At 25 24,Am 26 25,Ah 27 (.fad (.t 6) 0) 26,Ah 28 (.ld false 1 (.t 27)) 26,Ah 29 (.bin .gtr (.t 28) (Av 1000000000)) 26,Ap1 30 26 true 29,Am 31 30,Ah 32 (.mv (.t 5)) 31,Ah 33 (.bin .gtr (.t 32) (Av 0)) 31,Ah 34 (.mv (.t 33)) 31,Ag 35 (.mv (.t 1)) 34,Ag 36 (.mv (.t 5)) 34,Ag 37 (.bin .sub (.t 36) (Av 1)) 34,Ag 38 (.iad 2 (.t 35) (.t 37)) 34,Ag 39 (.fad (.t 38) 0) 34,Ag 40 (.ld false 1 (.t 39)) 34,Ag 41 (.fad (.t 6) 0) 34,Ag 42 (.ld false 1 (.t 41)) 34,Ag 43 (.bin .geq (.t 40) (.t 42)) 34,Ah 44 (.pick (.t 34) (.t 43) (Aw false)) 31,Ap1 45 31 true 44]) (.cond (.t 45) (.seq (Ar [4] [Ao 4 (.mv (Aw false))]) .ret) .skip)))) (Ar [0,1,15,16,17] [Ae .add 46 17 1,Am 17 46])))
def pb497 : PC :=
.seq (Ar [0,1] [Ao 4 (.mv (Aw false))]) (.seq (.seq (Ar [0,1,14] [Am 7 0,Ac1 12 8 7,At 9 8,Am 10 9,Ah 11 (.mv (.t 1)) 10,Ah 12 (.len (.t 11)) 10,Ah 13 (.bin .gtr (.t 12) (Av 12)) 10,Ap1 14 10 true 13]) (.cond (.t 14) (.seq (Ar [4] [Ao 4 (.mv (Aw false))]) .ret) .skip)) (.seq (.seq (Ar [0,1,15,16,17] [Am 15 1,Az 16 15,Ak 17 0]) (.blk 0 (.loop pl497_0))) (.seq (Ar [4] [Ao 4 (.mv (Aw true))]) .ret)))
def pf497 : PF:=⟨[.s 4],[],pb497⟩

def pl498_0 : PC :=
.seq (Ar [1,8,31,32,33] [Ab .lss 33 32 31]) (.seq (Aj 33 2) (.seq (.blk 3 (.seq (Ar [1,8,9,31,32] [Am 34 32,Am 9 34]) (.seq (Ar [1,8,9,31,32,37] [Am 35 1,Az 36 35,Ae .gtr 37 36 0]) (.cond (.t 37) (.seq (An1 [1,8,10,31,32] 41 10 [Am 38 1,Am 39 9,Ac2 481 40 38 39,Ac1 528 41 40,Am 10 41]) (An1 [1,8,31,32] 47 8 [Am 42 8,Am 43 10,Az 44 43,Ac2 531 45 42 44,Am 46 10,Ao 47 (.app 1 1 (.t 45) (.t 46)),Am 8 47])) .skip)))) (Ar [1,8,31,32] [Ae .add 48 32 1,Am 32 48])))
def pl498_1 : PC :=
.seq (Ar [0,1,5,16,17,18,19] [Ab .lss 19 18 17]) (.seq (Aj 19 0) (.seq (.blk 1 (.seq (Ar [0,1,5,7,16,17,18] [Ai 2 20 16 18,AL' 2 21 20,Ao 7 (.alloc [A0,(.nl 3)]),As 2 7 21]) (An1 [0,1,5,16,17,18] 26 5 [Am 22 5,Af 23 7 0,Al 24 23,Ao 25 (.bsl 1 [A2] 1 [(0,(.t 24))]),Ao 26 (.app 1 8 (.t 22) (.t 25)),Am 5 26]))) (Ar [0,1,5,16,17,18] [Ae .add 27 18 1,Am 18 27])))
def pb498 : PC :=
.seq (Ar [0,1] [Ao 4 (.mv (.c (.nl 1)))]) (.seq (.seq (Ar [0,1,14] [Am 11 0,Am 12 1,Ac2 497 13 11 12,At 14 13]) (.cond (.t 14) (.seq (Ar [4] [Ao 4 (.mv (.c (.nl 1)))]) .ret) .skip)) (.seq (An1 [0,1,5] 15 5 [Ao 15 (.bsl 1 [] 0 []),Am 5 15]) (.seq (.seq (Ar [0,1,5,16,17,18] [Am 16 1,Az 17 16,Ak 18 0]) (.blk 0 (.loop pl498_1))) (.seq (An1 [0,1,8] 29 8 [Am 28 5,Ao 29 (.call 530 [] [(.c (.nl 1)),(.t 28)]),Am 8 29]) (.seq (.seq (Ar [1,8,31,32] [Am 30 0,Az 31 30,Ak 32 0]) (.blk 2 (.loop pl498_0))) (.seq (Ar [4,8] [Am 49 8,Am 4 49]) .ret))))))
def pf498 : PF:=⟨[.s 4],[],pb498⟩

def pb505 : PC :=
.seq (Ar [2,3] [Ao 2 (.box 3 (.t 0)),Ao 3 (.box 3 (.t 1)),Ao 4 (.mv (Aw false))]) (.seq (.blk 0 (.seq (Ar [2,3,5] [Af 6 2 0,Al 7 6,Af 8 3 0,Al 9 8,Ab .neq 10 7 9,Am 5 10]) (.cond (.t 5) (.seq (Ar [4] [Af 11 2 0,Al 12 11,Af 13 3 0,Al 14 13,Ab .lss 15 12 14,Am 4 15]) .ret) (.seq (Ar [2,3,16] [Af 17 2 1,Al 18 17,Af 19 3 1,Al 20 19,Ab .neq 21 18 20,Am 16 21]) (.cond (.t 16) (.seq (Ar [4] [Af 22 2 1,Al 23 22,Af 24 3 1,Al 25 24,Ab .lss 26 23 25,Am 4 26]) .ret) .skip))))) (.seq (Ar [4] [Af 27 2 2,Al 28 27,Af 29 3 2,Al 30 29,Ab .lss 31 28 30,Am 4 31]) .ret))
def pf505 : PF:=⟨[.s 4],[],pb505⟩

def pb506 : PC :=
.seq (Ar [2,3] [Ao 2 (.box 6 (.t 0)),Ao 3 (.box 3 (.t 1)),Ao 4 (.mv (Aw false))]) (.seq (Ar [4] [AL' 3 5 3,Af 6 2 0,AL' 3 7 6,Ac2 505 8 5 7,At 9 8,Am 10 9,Ag 11 (.fad (.t 2) 3) 10,Ag 12 (.ld true 3 (.t 11)) 10,Ag 13 (.ld true 3 (.t 3)) 10,Ag 14 (.call 505 [] [(.t 12),(.t 13)]) 10,Ag 15 (.un .not (.t 14)) 10,Ap2 16 10 15 false,Am 4 16]) .ret)
def pf506 : PF:=⟨[.s 4],[],pb506⟩

def pb507 : PC :=
.seq (Ar [0] [Ak 2 0]) (.seq (.seq (Ar [0,5] [Am 3 0,Ao 4 (.call 377 [] [(.t 3),(Av 1),(Av 6)]),At 5 4]) (.cond (.t 5) (.seq (Ar [2] [Ak 2 0]) .ret) .skip)) (.seq (An1 [2] 6 2 [Ao 6 (.bsl 1 [A2,A2,A2,A2,A2,A2,A2] 7 [(0,(Av 0)),(1,(Av 5)),(2,(Av 6)),(3,(Av 4)),(4,(Av 3)),(5,(Av 1)),(6,(Av 2))]),Am 7 0,Ai 1 8 6 7,Al 9 8,Am 2 9]) .ret))
def pf507 : PF:=⟨[.s 2],[],pb507⟩

def pb508 : PC :=
.seq (Ar [2,3] [Ao 2 (.box 3 (.t 0)),Ao 3 (.box 3 (.t 1)),Ao 4 (.mv (Aw false))]) (.seq (.seq (Ar [2,3,9] [Af 5 2 0,Al 6 5,Af 7 3 0,Al 8 7,Ab .neq 9 6 8]) (.cond (.t 9) (.seq (Ar [4] [Af 10 2 0,Al 11 10,Af 12 3 0,Al 13 12,Ab .lss 14 11 13,Am 4 14]) .ret) .skip)) (.seq (.seq (Ar [2,3,19] [Af 15 2 1,Al 16 15,Af 17 3 1,Al 18 17,Ab .neq 19 16 18]) (.cond (.t 19) (.seq (Ar [4] [Af 20 2 1,Al 21 20,Af 22 3 1,Al 23 22,Ab .lss 24 21 23,Am 4 24]) .ret) .skip)) (.seq (Ar [4] [Af 25 2 2,Al 26 25,Af 27 3 2,Al 28 27,Ab .lss 29 26 28,Am 4 29]) .ret)))
def pf508 : PF:=⟨[.s 4],[],pb508⟩

def pb509 : PC :=
.seq (Ar [2,3] [Ao 2 (.box 6 (.t 0)),Ao 3 (.box 3 (.t 1)),Ao 4 (.mv (Aw false))]) (.seq (Ar [4] [AL' 3 5 3,Af 6 2 0,AL' 3 7 6,Ac2 508 8 5 7,At 9 8,Am 10 9,Ag 11 (.fad (.t 2) 3) 10,Ag 12 (.ld true 3 (.t 11)) 10,Ag 13 (.ld true 3 (.t 3)) 10,Ag 14 (.call 508 [] [(.t 12),(.t 13)]) 10,Ag 15 (.un .not (.t 14)) 10,Ap2 16 10 15 false,Am 4 16]) .ret)
def pf509 : PF:=⟨[.s 4],[],pb509⟩

def pb510 : PC :=
.seq (Ar [0] [Ak 2 0]) (.seq (.seq (Ar [3] [Am 3 0]) (.blk 0 (.seq (Ar [3,4] [Ae .eql 5 3 1,Am 4 5]) (.cond (.t 4) (.seq (Ar [2] [Ak 2 5]) .ret) (.seq (Ar [3,6] [Ae .eql 7 3 2,Am 6 7]) (.cond (.t 6) (.seq (Ar [2] [Ak 2 6]) .ret) (.seq (Ar [3,8] [Ae .eql 9 3 3,Am 8 9]) (.cond (.t 8) (.seq (Ar [2] [Ak 2 4]) .ret) (.seq (Ar [3,10] [Ae .eql 11 3 4,Am 10 11]) (.cond (.t 10) (.seq (Ar [2] [Ak 2 3]) .ret) (.seq (Ar [3,12] [Ae .eql 13 3 5,Am 12 13]) (.cond (.t 12) (.seq (Ar [2] [Ak 2 1]) .ret) (.seq (Ar [14] [Ae .eql 15 3 6,Am 14 15]) (.cond (.t 14) (.seq (Ar [2] [Ak 2 2]) .ret) .skip)))))))))))))) (.seq (Ar [2] [Ak 2 0]) .ret))
def pf510 : PF:=⟨[.s 2],[],pb510⟩

def pb513 : PC :=
.seq (Ar [0] [Ak 2 0]) (.seq (.seq (Ar [0,5] [Am 3 0,Ao 4 (.call 377 [] [(.t 3),(Av 0),(Av 2000000000)]),At 5 4]) (.cond (.t 5) (.seq (Ar [2] [Ak 2 0]) .ret) .skip)) (.seq (.seq (Ar [0,8] [Am 6 0,Ae .rem 7 6 2,Ae .eql 8 7 1]) (.cond (.t 8) (.seq (Ar [2] [Am 9 0,Ae .add 10 9 1,Ao 11 (.un .neg (.t 10)),Ae .quo 12 11 2,Am 2 12]) .ret) .skip)) (.seq (Ar [2] [Am 13 0,Ae .quo 14 13 2,Am 2 14]) .ret)))
def pf513 : PF:=⟨[.s 2],[],pb513⟩

def pl514_0 : PC :=
.seq (.seq (Ar [0,1,2,8,9,10,21] [Am 19 10,Am 20 2,Ab .lss 21 19 20]) (Aj 21 0)) (.seq (.blk 1 (.seq (An1 [0,1,2,8,10,11,12,13] 28 12 [Am 25 0,Am 26 9,Am 27 1,Ac3 538 28 25 26 27,Am 24 28,Ax 29 24 0,Ax 30 24 1,Ax 31 24 2,⟨some 11,.alloc [A0,A0,A1],none⟩,As 3 11 29,Am 12 30,Am 13 31]) (.seq (.seq (Ar [0,1,2,8,10,11,12,33] [Am 32 13,At 33 32]) (.cond (.t 33) (.seq (An1 [6,7] 34 6 [Ao 34 (.bsl 3 [] 0 []),Am 6 34,Ao 7 (.mv (Aw false))]) .ret) .skip)) (.seq (An1 [0,1,2,8,10,12] 38 8 [Am 35 8,AL' 3 36 11,⟨some 37,.bsl 3 [A2,A2,A3] 1 [(0,(.t 36))],none⟩,Ao 38 (.app 3 32 (.t 35) (.t 37)),Am 8 38]) (Ar [0,1,2,8,9,10,12] [Am 39 12,Am 9 39]))))) (Ar [0,1,2,8,9,10] [Am 22 10,Ae .add 23 22 1,Am 10 23]))
def pb514 : PC :=
.seq (Ar [0,1,2] [Ao 6 (.mv (.c (.nl 3))),Ao 7 (.mv (Aw false))]) (.seq (An1 [0,1,2,8] 14 8 [Ao 14 (.bsl 3 [] 0 []),Am 8 14]) (.seq (.seq (Ar [0,1,2,8,17] [Am 15 2,Ao 16 (.call 377 [] [(.t 15),(Av 1),(Av 64)]),At 17 16]) (.cond (.t 17) (.seq (Ar [6,7,8] [Am 18 8,Am 6 18,Ao 7 (.mv (Aw false))]) .ret) .skip)) (.seq (Ar [0,1,2,8,9] [Ak 9 0]) (.seq (.seq (Ar [0,1,2,8,9,10] [Ak 10 0]) (.blk 0 (.loop pl514_0))) (.seq (.seq (Ar [8,43] [Am 40 9,Am 41 0,Az 42 41,Ab .neq 43 40 42]) (.cond (.t 43) (.seq (An1 [6,7] 44 6 [Ao 44 (.bsl 3 [] 0 []),Am 6 44,Ao 7 (.mv (Aw false))]) .ret) .skip)) (.seq (Ar [6,7,8] [Am 45 8,Am 6 45,Ao 7 (.mv (Aw true))]) .ret))))))
def pf514 : PF:=⟨[.s 6,.s 7],[],pb514⟩

def pl515_0 : PC :=
.seq (.seq (Ar [0,1,2,8,9,10,12,13,44] [Am 42 13,Am 43 9,Ab .lss 44 42 43]) (Aj 44 0)) (.seq (.blk 1 (.seq (An1 [0,1,2,8,9,12,13,14,15,16] 50 14 [Am 48 0,Am 49 10,Ac2 491 50 48 49,Am 47 50,Ax 51 47 0,Ax 52 47 1,Ax 53 47 2,Am 14 51,Am 15 52,Am 16 53]) (.seq (An1 [0,1,2,8,9,12,13,14,16,17,18,19] 58 18 [Am 55 0,Am 56 15,Am 57 1,Ac3 538 58 55 56 57,Am 54 58,Ax 59 54 0,Ax 60 54 1,Ax 61 54 2,⟨some 17,.alloc [A0,A0,A1],none⟩,As 3 17 59,Am 18 60,Am 19 61]) (.seq (.seq (Ar [0,1,2,8,9,12,13,14,17,18,67] [Am 62 16,At 63 62,Am 64 63,Ah 65 (.mv (.t 19)) 64,Ah 66 (.un .not (.t 65)) 64,Ap1 67 64 true 66]) (.cond (.t 67) (.seq (Ar [6,7,8] [Am 68 8,Am 6 68,Ao 7 (.mv (Aw false))]) .ret) .skip)) (.seq (An1 [0,1,2,8,9,12,13,18] 74 12 [Am 69 12,AL' 3 70 17,Am 71 14,⟨some 72,.build [A0,A0,A1,A0] [(0,3,(.t 70)),(3,1,(.t 71))],none⟩,⟨some 73,.bsl 4 [A2,A2,A3,A2] 1 [(0,(.t 72))],none⟩,Ao 74 (.app 4 40 (.t 69) (.t 73)),Am 12 74]) (Ar [0,1,2,8,9,10,12,13,18] [Am 75 18,Am 10 75])))))) (Ar [0,1,2,8,9,10,12,13] [Am 45 13,Ae .add 46 45 1,Am 13 46]))
def pb515 : PC :=
.seq (Ar [0,1,2] [Ao 6 (.mv (.c (.nl 3))),Ao 7 (.mv (Aw false))]) (.seq (An1 [0,1,2,8] 21 8 [Ao 21 (.bsl 3 [] 0 []),Am 8 21]) (.seq (An1 [0,1,2,8,9,10,11] 24 9 [Am 23 0,Ao 24 (.call 491 [] [(.t 23),(Av 0)]),Am 22 24,Ax 25 22 0,Ax 26 22 1,Ax 27 22 2,Am 9 25,Am 10 26,Am 11 27]) (.seq (.seq (Ar [0,1,2,8,9,10,39] [Am 28 11,At 29 28,Am 30 29,Ah 31 (.mv (.t 2)) 30,Ah 32 (.call 377 [] [(.t 31),(Av 1),(Av 64)]) 30,Ah 33 (.un .not (.t 32)) 30,Ap1 34 30 true 33,Am 35 34,Ah 36 (.mv (.t 9)) 35,Ah 37 (.call 377 [] [(.t 36),(Av 1),(Av 64)]) 35,Ah 38 (.un .not (.t 37)) 35,Ap1 39 35 true 38]) (.cond (.t 39) (.seq (Ar [6,7,8] [Am 40 8,Am 6 40,Ao 7 (.mv (Aw false))]) .ret) .skip)) (.seq (An1 [0,1,2,8,9,10,12] 41 12 [Ao 41 (.bsl 4 [] 0 []),Am 12 41]) (.seq (.seq (Ar [0,1,2,8,9,10,12,13] [Ak 13 0]) (.blk 0 (.loop pl515_0))) (.seq (An1 [0,2,8,20] 77 20 [Am 76 12,Ac1 539 77 76,Am 20 77]) (.seq (.seq (Ar [8,20,88] [Am 78 20,Az 79 78,Am 80 2,Ab .neq 81 79 80,Am 82 81,Ah 83 (.mv (.t 20)) 82,Ah 84 (.call 540 [] [(.t 83)]) 82,Ah 85 (.mv (.t 0)) 82,Ah 86 (.call 402 [] [(.t 84),(.t 85)]) 82,Ah 87 (.un .not (.t 86)) 82,Ap1 88 82 true 87]) (.cond (.t 88) (.seq (Ar [6,7,8] [Am 89 8,Am 6 89,Ao 7 (.mv (Aw false))]) .ret) .skip)) (.seq (Ar [6,7,20] [Am 90 20,Am 6 90,Ao 7 (.mv (Aw true))]) .ret))))))))
def pf515 : PF:=⟨[.s 6,.s 7],[],pb515⟩

def pl516_0 : PC :=
.seq (.seq (Ar [0,1,2,8,9,10,12,13,45] [Am 43 13,Am 44 9,Ab .lss 45 43 44]) (Aj 45 0)) (.seq (.blk 1 (.seq (An1 [0,1,2,8,9,12,13,14,15,16] 52 15 [Am 49 0,Am 50 10,Am 51 1,Ac3 538 52 49 50 51,Am 48 52,Ax 53 48 0,Ax 54 48 1,Ax 55 48 2,⟨some 14,.alloc [A0,A0,A1],none⟩,As 3 14 53,Am 15 54,Am 16 55]) (.seq (.seq (Ar [0,1,2,8,9,12,13,14,15,57] [Am 56 16,At 57 56]) (.cond (.t 57) (.seq (Ar [6,7,8] [Am 58 8,Am 6 58,Ao 7 (.mv (Aw false))]) .ret) .skip)) (.seq (An1 [0,1,2,8,9,12,13,15] 62 12 [Am 59 12,AL' 3 60 14,⟨some 61,.bsl 3 [A2,A2,A3] 1 [(0,(.t 60))],none⟩,Ao 62 (.app 3 32 (.t 59) (.t 61)),Am 12 62]) (Ar [0,1,2,8,9,10,12,13,15] [Am 63 15,Am 10 63]))))) (Ar [0,1,2,8,9,10,12,13] [Am 46 13,Ae .add 47 46 1,Am 13 47]))
def pb516 : PC :=
.seq (Ar [0,1,2] [Ao 6 (.mv (.c (.nl 3))),Ao 7 (.mv (Aw false))]) (.seq (An1 [0,1,2,8] 21 8 [Ao 21 (.bsl 3 [] 0 []),Am 8 21]) (.seq (An1 [0,1,2,8,9,10,11] 24 9 [Am 23 0,Ao 24 (.call 491 [] [(.t 23),(Av 0)]),Am 22 24,Ax 25 22 0,Ax 26 22 1,Ax 27 22 2,Am 9 25,Am 10 26,Am 11 27]) (.seq (.seq (Ar [0,1,2,8,9,10,40] [Am 28 11,At 29 28,Am 30 29,Ah 31 (.mv (.t 2)) 30,Ah 32 (.call 377 [] [(.t 31),(Av 1),(Av 64)]) 30,Ah 33 (.un .not (.t 32)) 30,Ap1 34 30 true 33,Am 35 34,Ah 36 (.mv (.t 9)) 35,Ah 37 (.mv (.t 2)) 35,Ah 38 (.call 377 [] [(.t 36),(Av 1),(.t 37)]) 35,Ah 39 (.un .not (.t 38)) 35,Ap1 40 35 true 39]) (.cond (.t 40) (.seq (Ar [6,7,8] [Am 41 8,Am 6 41,Ao 7 (.mv (Aw false))]) .ret) .skip)) (.seq (An1 [0,1,2,8,9,10,12] 42 12 [Ao 42 (.bsl 3 [] 0 []),Am 12 42]) (.seq (.seq (Ar [0,1,2,8,9,10,12,13] [Ak 13 0]) (.blk 0 (.loop pl516_0))) (.seq (.reg [0,8,12,17,18] [(72,17)] [Am 65 0,Am 66 10,Ao 67 (.slc 1 (.t 65) (some (.t 66)) none),Am 68 9,Ae .sub 69 68 1,Ac1 542 70 69,Am 71 2,Ac3 541 72 67 70 71,Am 64 72,Ax 73 64 0,Ax 74 64 1,Am 17 73,Am 18 74] (some [(2,5)])) (.seq (An1 [0,8,17,18,19,20] 78 19 [Am 76 12,Am 77 17,Ac2 543 78 76 77,Am 75 78,Ax 79 75 0,Ax 80 75 1,Am 19 79,Am 20 80]) (.seq (.seq (Ar [8,19,93] [Am 81 18,At 82 81,Am 83 82,Ah 84 (.mv (.t 20)) 83,Ah 85 (.un .not (.t 84)) 83,Ap1 86 83 true 85,Am 87 86,Ah 88 (.mv (.t 19)) 87,Ah 89 (.call 544 [] [(.t 88)]) 87,Ah 90 (.mv (.t 0)) 87,Ah 91 (.call 402 [] [(.t 89),(.t 90)]) 87,Ah 92 (.un .not (.t 91)) 87,Ap1 93 87 true 92]) (.cond (.t 93) (.seq (Ar [6,7,8] [Am 94 8,Am 6 94,Ao 7 (.mv (Aw false))]) .ret) .skip)) (.seq (Ar [6,7,19] [Am 95 19,Am 6 95,Ao 7 (.mv (Aw true))]) .ret)))))))))
def pf516 : PF:=⟨[.s 6,.s 7],[],pb516⟩

def pb517 : PC :=
.seq (Ar [0,1] [Ao 4 (.mv (.c (.nl 3))),Ao 5 (.mv (Aw false))]) (.seq (An1 [0,1,6] 14 6 [Ao 14 (.bsl 3 [] 0 []),Am 6 14]) (.seq (An1 [0,1,6,7,8,9] 17 7 [Am 16 0,Ao 17 (.call 491 [] [(.t 16),(Av 0)]),Am 15 17,Ax 18 15 0,Ax 19 15 1,Ax 20 15 2,Am 7 18,Am 8 19,Am 9 20]) (.seq (.seq (Ar [0,1,6,7,8,33] [Am 21 9,At 22 21,Am 23 22,Ah 24 (.mv (.t 8)) 23,Ah 25 (.mv (.t 0)) 23,Ah 26 (.len (.t 25)) 23,Ah 27 (.bin .geq (.t 24) (.t 26)) 23,Ap1 28 23 true 27,Am 29 28,Ah 30 (.mv (.t 1)) 29,Ah 31 (.call 377 [] [(.t 30),(Av 1),(Av 64)]) 29,Ah 32 (.un .not (.t 31)) 29,Ap1 33 29 true 32]) (.cond (.t 33) (.seq (Ar [4,5,6] [Am 34 6,Am 4 34,Ao 5 (.mv (Aw false))]) .ret) .skip)) (.seq (.reg [0,6,7,10,11] [(46,10)] [Am 36 0,Am 37 8,Ae .add 38 37 1,Ao 39 (.slc 1 (.t 36) (some (.t 38)) none),Am 40 0,Am 41 8,Ai 1 42 40 41,Al 43 42,Ao 44 (.cvi .i64 (.t 43)),Am 45 1,Ac3 541 46 39 44 45,Am 35 46,Ax 47 35 0,Ax 48 35 1,Am 10 47,Am 11 48] (some [(3,8)])) (.seq (An1 [0,6,10,11,12,13] 52 12 [Am 50 7,Am 51 10,Ac2 545 52 50 51,Am 49 52,Ax 53 49 0,Ax 54 49 1,Am 12 53,Am 13 54]) (.seq (.seq (Ar [6,12,67] [Am 55 11,At 56 55,Am 57 56,Ah 58 (.mv (.t 13)) 57,Ah 59 (.un .not (.t 58)) 57,Ap1 60 57 true 59,Am 61 60,Ah 62 (.mv (.t 12)) 61,Ah 63 (.call 546 [] [(.t 62)]) 61,Ah 64 (.mv (.t 0)) 61,Ah 65 (.call 402 [] [(.t 63),(.t 64)]) 61,Ah 66 (.un .not (.t 65)) 61,Ap1 67 61 true 66]) (.cond (.t 67) (.seq (Ar [4,5,6] [Am 68 6,Am 4 68,Ao 5 (.mv (Aw false))]) .ret) .skip)) (.seq (Ar [4,5,12] [Am 69 12,Am 4 69,Ao 5 (.mv (Aw true))]) .ret)))))))
def pf517 : PF:=⟨[.s 4,.s 5],[],pb517⟩

def pl518_0 : PC :=
.seq (.seq (Ar [0,3,11] [Am 8 3,Am 9 0,Az 10 9,Ab .lss 11 8 10]) (Aj 11 0)) (.seq (.blk 1 (.seq (Aq [0,3,31] [Am 14 0,Am 15 3,Ai 3 16 14 15,AL' 3 17 16,Ac1 341 18 17,At 19 18,Am 20 19,Ah 21 (.mv (.t 0)) 20,Ah 22 (.mv (.t 3)) 20,Ah 23 (.iad 3 (.t 21) (.t 22)) 20,Ah 24 (.fad (.t 23) 0) 20,Ah 25 (.ld false 1 (.t 24)) 20,Ah 26 (.mv (.t 0)) 20,Ah 27 (.iad 3 (.t 26) (Av 0)) 20,Ah 28 (.fad (.t 27) 0) 20,Ah 29 (.ld false 1 (.t 28)) 20,Ah 30 (.bin .neq (.t 25) (.t 29)) 20,Ap1 31 20 true 30]) (.cond (.t 31) (.seq (Ar [2] [Ak 2 0]) .ret) .skip))) (Ar [0,3] [Am 12 3,Ae .add 13 12 1,Am 3 13]))
def pb518 : PC :=
.seq (Ar [0] [Ak 2 0]) (.seq (.seq (Ar [0,7] [Am 4 0,Az 5 4,Ao 6 (.call 377 [] [(.t 5),(Av 1),(Av 64)]),At 7 6]) (.cond (.t 7) (.seq (Ar [2] [Ak 2 0]) .ret) .skip)) (.seq (.seq (Ar [0,3] [Ak 3 0]) (.blk 0 (.loop pl518_0))) (.seq (Ar [2] [Am 32 0,Ao 33 (.iad 3 (.t 32) (Av 0)),Af 34 33 0,Al 35 34,Am 2 35]) .ret)))
def pf518 : PF:=⟨[.s 2],[],pb518⟩

def pb519 : PC :=
.seq (Ar [0] [Ao 2 (.mv (.c (.nl 1)))]) (.seq (An1 [0,3] 5 3 [Am 4 0,Ac1 547 5 4,Am 3 5]) (.seq (.seq (Ar [0,3,7] [Am 6 3,Ae .lss 7 6 0]) (.cond (.t 7) (.seq (An1 [2] 8 2 [Ao 8 (.bsl 1 [] 0 []),Am 2 8]) .ret) .skip)) (.seq (An1 [2] 15 2 [Am 9 3,Ao 10 (.cvi .u8 (.t 9)),Ao 11 (.bsl 1 [.int .u8 0] 1 [(0,(.t 10))]),Am 12 3,Am 13 0,Ac2 548 14 12 13,Ao 15 (.app 1 1 (.t 11) (.t 14)),Am 2 15]) .ret)))
def pf519 : PF:=⟨[.s 2],[],pb519⟩

def pb520 : PC :=
.seq (Ar [0,3] [Ao 3 (.box 2 (.t 1)),Ao 4 (.mv (Aw false))]) (.seq (An1 [4] 12 4 [Af 5 3 0,Al 6 5,Ae .geq 7 6 0,Am 8 7,Ag 9 (.mv (.t 0)) 8,Ag 10 (.fad (.t 3) 1) 8,Ag 11 (.ld false 1 (.t 10)) 8,Ag 12 (.call 298 [] [(.t 9),(.t 11)]) 8,Ap2 13 8 12 false,Am 4 13]) .ret)
def pf520 : PF:=⟨[.s 4],[],pb520⟩

def pb521 : PC :=
.seq (Ar [0] [Ak 2 0]) (.seq (.seq (Ar [0,5] [Am 3 0,Ao 4 (.call 87 [] [(.t 3),(Av 0),(Av 2000000000)]),At 5 4]) (.cond (.t 5) (.seq (Ar [2] [Ak 2 0]) .ret) .skip)) (.seq (.seq (Ar [0,8] [Am 6 0,Ae .rem 7 6 2,Ae .eql 8 7 1]) (.cond (.t 8) (.seq (Ar [2] [Am 9 0,Ae .add 10 9 1,Ao 11 (.un .neg (.t 10)),Ae .quo 12 11 2,Am 2 12]) .ret) .skip)) (.seq (Ar [2] [Am 13 0,Ae .quo 14 13 2,Am 2 14]) .ret)))
def pf521 : PF:=⟨[.s 2],[],pb521⟩

def pb522 : PC :=
.seq (Ar [0,1,2] [Ao 6 (.mv (.c (.nl 3))),Ao 7 (.mv (Aw false))]) (.seq (.seq (Ar [0,1,2,13] [Am 11 2,Ao 12 (.call 87 [] [(.t 11),(Av 1),(Av 64)]),At 13 12]) (.cond (.t 13) (.seq (Ar [6,7] [Ao 6 (.mv (.c (.nl 3))),Ao 7 (.mv (Aw false))]) .ret) .skip)) (.seq (An1 [0,2,8] 18 8 [Am 15 0,Am 16 1,Am 17 2,Ao 18 (.call 549 [] [(.t 15),(Av 0),(.t 16),(.t 17)]),Am 14 18,Ax 19 14 0,Ax 20 14 1,Ax 21 14 2,Am 8 19,Am 9 20,Am 10 21]) (.seq (An1 [6,7] 27 6 [Am 22 0,Am 23 2,Am 24 8,Am 25 8,Ac1 550 26 25,Ao 27 (.callm 527 2 [(.t 22),(.t 23),(.t 24),(.t 26)]),Ax 28 27 0,Ax 29 27 1,Am 6 28,Am 7 29]) .ret)))
def pf522 : PF:=⟨[.s 6,.s 7],[],pb522⟩

def pl523_0 : PC :=
.seq (.seq (Ar [0,1,2,8,9,11,12,35] [Am 33 12,Am 34 8,Ab .lss 35 33 34]) (Aj 35 0)) (.seq (.blk 1 (.seq (An1 [0,1,2,8,11,12,13,14,15] 41 13 [Am 39 0,Am 40 9,Ac2 495 41 39 40,Am 38 41,Ax 42 38 0,Ax 43 38 1,Ax 44 38 2,Am 13 42,Am 14 43,Am 15 44]) (.seq (.seq (Ar [0,1,2,8,11,12,13,14,46] [Am 45 15,At 46 45]) (.cond (.t 46) (.seq (Ar [6,7] [Ao 6 (.mv (.c (.nl 3))),Ao 7 (.mv (Aw false))]) .ret) .skip)) (.seq (An1 [0,1,2,8,11,12,13,15,16,17] 51 15 [Am 48 0,Am 49 14,Am 50 1,Ac3 551 51 48 49 50,Am 47 51,Ax 52 47 0,Ax 53 47 1,Ax 54 47 2,⟨some 16,.alloc [A0,A0,A1],none⟩,As 3 16 52,Am 17 53,Am 15 54]) (.seq (.seq (Ar [0,1,2,8,11,12,13,15,16,17,56] [Am 55 15,At 56 55]) (.cond (.t 56) (.seq (Ar [6,7] [Ao 6 (.mv (.c (.nl 3))),Ao 7 (.mv (Aw false))]) .ret) .skip)) (.seq (An1 [0,1,2,8,11,12,15,17] 62 11 [Am 57 11,AL' 3 58 16,Am 59 13,⟨some 60,.build [A0,A0,A1,A0] [(0,3,(.t 58)),(3,1,(.t 59))],none⟩,⟨some 61,.bsl 4 [A2,A2,A3,A2] 1 [(0,(.t 60))],none⟩,Ao 62 (.app 4 40 (.t 57) (.t 61)),Am 11 62]) (Ar [0,1,2,8,9,11,12,15] [Am 63 17,Am 9 63]))))))) (Ar [0,1,2,8,9,11,12] [Am 36 12,Ae .add 37 36 1,Am 12 37]))
def pb523 : PC :=
.seq (Ar [0,1,2] [Ao 6 (.mv (.c (.nl 3))),Ao 7 (.mv (Aw false))]) (.seq (An1 [0,1,2,8,9,10] 21 8 [Am 20 0,Ao 21 (.call 495 [] [(.t 20),(Av 0)]),Am 19 21,Ax 22 19 0,Ax 23 19 1,Ax 24 19 2,Am 8 22,Am 9 23,Am 10 24]) (.seq (.seq (Ar [0,1,2,8,9,31] [Am 25 10,At 26 25,Am 27 26,Ah 28 (.mv (.t 8)) 27,Ah 29 (.call 87 [] [(.t 28),(Av 1),(Av 64)]) 27,Ah 30 (.un .not (.t 29)) 27,Ap1 31 27 true 30]) (.cond (.t 31) (.seq (Ar [6,7] [Ao 6 (.mv (.c (.nl 3))),Ao 7 (.mv (Aw false))]) .ret) .skip)) (.seq (An1 [0,1,2,8,9,11] 32 11 [Ao 32 (.bsl 4 [] 0 []),Am 11 32]) (.seq (.seq (Ar [0,1,2,8,9,11,12] [Ak 12 0]) (.blk 0 (.loop pl523_0))) (.seq (An1 [0,2,18] 65 18 [Am 64 11,Ac1 552 65 64,Am 18 65]) (.seq (An1 [6,7] 71 6 [Am 66 0,Am 67 2,Am 68 18,Am 69 18,Ac1 553 70 69,Ao 71 (.callm 527 2 [(.t 66),(.t 67),(.t 68),(.t 70)]),Ax 72 71 0,Ax 73 71 1,Am 6 72,Am 7 73]) .ret))))))
def pf523 : PF:=⟨[.s 6,.s 7],[],pb523⟩

def pb524 : PC :=
.seq (Ar [0,1,2] [Ao 6 (.mv (.c (.nl 3))),Ao 7 (.mv (Aw false))]) (.seq (An1 [0,1,2,8,9,10] 17 8 [Am 16 0,Ao 17 (.call 495 [] [(.t 16),(Av 0)]),Am 15 17,Ax 18 15 0,Ax 19 15 1,Ax 20 15 2,Am 8 18,Am 9 19,Am 10 20]) (.seq (.seq (Ar [0,1,2,8,9,27] [Am 21 10,At 22 21,Am 23 22,Ah 24 (.mv (.t 8)) 23,Ah 25 (.call 87 [] [(.t 24),(Av 1),(Av 64)]) 23,Ah 26 (.un .not (.t 25)) 23,Ap1 27 23 true 26]) (.cond (.t 27) (.seq (Ar [6,7] [Ao 6 (.mv (.c (.nl 3))),Ao 7 (.mv (Aw false))]) .ret) .skip)) (.seq (An1 [0,2,8,9,10,11] 33 9 [Am 29 0,Am 30 9,Am 31 1,Am 32 8,Ao 33 (.call 549 [] [(.t 29),(.t 30),(.t 31),(.t 32)]),Am 28 33,Ax 34 28 0,Ax 35 28 1,Ax 36 28 2,Am 11 34,Am 9 35,Am 10 36]) (.seq (.seq (Ar [0,2,8,9,11,38] [Am 37 10,At 38 37]) (.cond (.t 38) (.seq (Ar [6,7] [Ao 6 (.mv (.c (.nl 3))),Ao 7 (.mv (Aw false))]) .ret) .skip)) (.seq (.reg [0,2,9,10,11,12] [(47,10)] [Am 40 0,Am 41 9,Ao 42 (.slc 1 (.t 40) (some (.t 41)) none),Am 43 8,Ae .sub 44 43 1,Ac1 555 45 44,Am 46 2,Ac3 554 47 42 45 46,Am 39 47,Ax 48 39 0,Ax 49 39 1,Am 12 48,Am 10 49] (some [(2,5)])) (.seq (.seq (Ar [0,2,9,10,11,12,51] [Am 50 10,At 51 50]) (.cond (.t 51) (.seq (Ar [6,7] [Ao 6 (.mv (.c (.nl 3))),Ao 7 (.mv (Aw false))]) .ret) .skip)) (.seq (An1 [0,2,13] 55 13 [Am 53 11,Am 54 12,Ac2 556 55 53 54,Am 52 55,Ax 56 52 0,Ax 57 52 1,Am 13 56,Am 14 57]) (.seq (An1 [6,7] 63 6 [Am 58 0,Am 59 2,Am 60 13,Am 61 13,Ac1 557 62 61,Ao 63 (.callm 527 2 [(.t 58),(.t 59),(.t 60),(.t 62)]),Ax 64 63 0,Ax 65 63 1,Am 6 64,Am 7 65]) .ret))))))))
def pf524 : PF:=⟨[.s 6,.s 7],[],pb524⟩

def pb525 : PC :=
.seq (Ar [0,1] [Ao 4 (.mv (.c (.nl 3))),Ao 5 (.mv (Aw false))]) (.seq (An1 [0,1,6,7,8] 14 6 [Am 13 0,Ao 14 (.call 495 [] [(.t 13),(Av 0)]),Am 12 14,Ax 15 12 0,Ax 16 12 1,Ax 17 12 2,Am 6 15,Am 7 16,Am 8 17]) (.seq (.seq (Ar [0,1,6,7,25] [Am 18 8,At 19 18,Am 20 19,Ah 21 (.mv (.t 7)) 20,Ah 22 (.mv (.t 0)) 20,Ah 23 (.len (.t 22)) 20,Ah 24 (.bin .geq (.t 21) (.t 23)) 20,Ap1 25 20 true 24]) (.cond (.t 25) (.seq (Ar [4,5] [Ao 4 (.mv (.c (.nl 3))),Ao 5 (.mv (Aw false))]) .ret) .skip)) (.seq (.reg [0,1,6,8,9] [(37,8)] [Am 27 0,Am 28 7,Ae .add 29 28 1,Ao 30 (.slc 1 (.t 27) (some (.t 29)) none),Am 31 0,Am 32 7,Ai 1 33 31 32,Al 34 33,Ao 35 (.cvi .i64 (.t 34)),Am 36 1,Ac3 554 37 30 35 36,Am 26 37,Ax 38 26 0,Ax 39 26 1,Am 9 38,Am 8 39] (some [(3,8)])) (.seq (.seq (Ar [0,1,6,8,9,41] [Am 40 8,At 41 40]) (.cond (.t 41) (.seq (Ar [4,5] [Ao 4 (.mv (.c (.nl 3))),Ao 5 (.mv (Aw false))]) .ret) .skip)) (.seq (An1 [0,1,10] 45 10 [Am 43 6,Am 44 9,Ac2 558 45 43 44,Am 42 45,Ax 46 42 0,Ax 47 42 1,Am 10 46,Am 11 47]) (.seq (An1 [4,5] 53 4 [Am 48 0,Am 49 1,Am 50 10,Am 51 10,Ac1 559 52 51,Ao 53 (.callm 527 2 [(.t 48),(.t 49),(.t 50),(.t 52)]),Ax 54 53 0,Ax 55 53 1,Am 4 54,Am 5 55]) .ret))))))
def pf525 : PF:=⟨[.s 4,.s 5],[],pb525⟩

def pl526_0 : PC :=
.seq (Ar [0,9,10,11,12] [Ab .lss 12 11 10]) (.seq (Aj 12 0) (.seq (.blk 1 (.seq (Ar [0,4,9,10,11] [Ai 3 13 9 11,AL' 3 14 13,⟨some 4,.alloc [A0,A0,A1],none⟩,As 3 4 14]) (.seq (Aq [0,9,10,11,26] [AL' 3 15 4,Ac1 60 16 15,At 17 16,Am 18 17,Ah 19 (.fad (.t 4) 0) 18,Ah 20 (.ld false 1 (.t 19)) 18,Ah 21 (.mv (.t 0)) 18,Ah 22 (.iad 3 (.t 21) (Av 0)) 18,Ah 23 (.fad (.t 22) 0) 18,Ah 24 (.ld false 1 (.t 23)) 18,Ah 25 (.bin .neq (.t 20) (.t 24)) 18,Ap1 26 18 true 25]) (.cond (.t 26) (.seq (Ar [2] [Ak 2 0]) .ret) .skip)))) (Ar [0,9,10,11] [Ae .add 27 11 1,Am 11 27])))
def pb526 : PC :=
.seq (Ar [0] [Ak 2 0]) (.seq (.seq (Ar [0,8] [Am 5 0,Az 6 5,Ao 7 (.call 87 [] [(.t 6),(Av 1),(Av 64)]),At 8 7]) (.cond (.t 8) (.seq (Ar [2] [Ak 2 0]) .ret) .skip)) (.seq (.seq (Ar [0,9,10,11] [Am 9 0,Az 10 9,Ak 11 0]) (.blk 0 (.loop pl526_0))) (.seq (Ar [2] [Am 28 0,Ao 29 (.iad 3 (.t 28) (Av 0)),Af 30 29 0,Al 31 30,Am 2 31]) .ret)))
def pf526 : PF:=⟨[.s 2],[],pb526⟩

def pb527 : PC :=
.seq (Ar [0,1,2,3] [Ao 8 (.mv (.c (.nl 3))),Ao 9 (.mv (Aw false))]) (.seq (.seq (Ar [2,24] [Am 10 1,Ao 11 (.call 87 [] [(.t 10),(Av 1),(Av 64)]),At 12 11,Am 13 12,Ah 14 (.mv (.t 2)) 13,Ah 15 (.len (.t 14)) 13,Ah 16 (.mv (.t 1)) 13,Ah 17 (.bin .neq (.t 15) (.t 16)) 13,Ap1 18 13 true 17,Am 19 18,Ah 20 (.mv (.t 0)) 19,Ah 21 (.mv (.t 3)) 19,Ah 22 (.call 1 [] [(.t 20),(.t 21)]) 19,Ah 23 (.un .not (.t 22)) 19,Ap1 24 19 true 23]) (.cond (.t 24) (.seq (Ar [2,8,9] [Ao 8 (.mv (.c (.nl 3))),Ao 9 (.mv (Aw false))]) .ret) .skip)) (.seq (Ar [2,8,9] [Am 25 2,Am 8 25,Ao 9 (.mv (Aw true))]) .ret))
def pf527 : PF:=⟨[.s 8,.s 9],[2],pb527⟩

def pb528 : PC :=
.seq (Ar [0] [Ao 2 (.mv (.c (.nl 1)))]) (.seq (An1 [0,3] 5 3 [Am 4 0,Ac1 560 5 4,Am 3 5]) (.seq (.seq (Ar [0,3,7] [Am 6 3,Ae .lss 7 6 0]) (.cond (.t 7) (.seq (Ar [2] [Ao 2 (.mv (.c (.nl 1)))]) .ret) .skip)) (.seq (An1 [2] 14 2 [Am 8 3,Ao 9 (.cvi .u8 (.t 8)),Ao 10 (.bsl 1 [.int .u8 0] 1 [(0,(.t 9))]),Am 11 3,Am 12 0,Ac2 561 13 11 12,Ao 14 (.app 1 1 (.t 10) (.t 13)),Am 2 14]) .ret)))
def pf528 : PF:=⟨[.s 2],[],pb528⟩

def pb529 : PC :=
.seq (Ar [0,3] [Ao 3 (.box 2 (.t 1)),Ao 4 (.mv (Aw false))]) (.seq (An1 [4] 12 4 [Af 5 3 0,Al 6 5,Ae .geq 7 6 0,Am 8 7,Ag 9 (.mv (.t 0)) 8,Ag 10 (.fad (.t 3) 1) 8,Ag 11 (.ld false 1 (.t 10)) 8,Ag 12 (.call 19 [] [(.t 9),(.t 11)]) 8,Ap2 13 8 12 false,Am 4 13]) .ret)
def pf529 : PF:=⟨[.s 4],[],pb529⟩

def pl530_0 : PC :=
.seq (Ar [5,31,32,33,34] [Ab .lss 34 33 32]) (.seq (Aj 34 2) (.seq (.blk 3 (.seq (Ar [5,9,31,32,33] [Ai 1 35 31 33,Al 36 35,Am 9 36]) (An1 [5,31,32,33] 39 5 [Am 37 5,Am 38 9,Ac2 531 39 37 38,Am 5 39]))) (Ar [5,31,32,33] [Ae .add 40 33 1,Am 33 40])))
def pl530_1 : PC :=
.seq (Ar [1,5,16,17,18,19] [Ab .lss 19 18 17]) (.seq (Aj 19 0) (.seq (.blk 1 (.seq (Ar [1,5,7,16,17,18] [Ai 1 20 16 18,Al 21 20,Am 7 21]) (.seq (Ar [1,5,16,17,18,24] [Am 22 7,Ac1 79 23 22,At 24 23]) (.cond (.t 24) (.seq (Ar [4,5] [Am 25 5,Am 4 25]) .ret) .skip)))) (Ar [1,5,16,17,18] [Ae .add 26 18 1,Am 18 26])))
def pb530 : PC :=
.seq (Ar [0,1] [Ao 4 (.mv (.c (.nl 1)))]) (.seq (An1 [1,5] 11 5 [Am 10 0,Ac1 69 11 10,Am 5 11]) (.seq (.seq (Ar [1,5,14] [Am 12 1,Az 13 12,Ae .gtr 14 13 1000000000]) (.cond (.t 14) (.seq (Ar [4,5] [Am 15 5,Am 4 15]) .ret) .skip)) (.seq (.seq (Ar [1,5,16,17,18] [Am 16 1,Az 17 16,Ak 18 0]) (.blk 0 (.loop pl530_1))) (.seq (An1 [1,5] 30 5 [Am 27 5,Am 28 1,Az 29 28,Ac2 531 30 27 29,Am 5 30]) (.seq (.seq (Ar [5,31,32,33] [Am 31 1,Az 32 31,Ak 33 0]) (.blk 2 (.loop pl530_0))) (.seq (Ar [4,5] [Am 41 5,Am 4 41]) .ret))))))
def pf530 : PF:=⟨[.s 4],[],pb530⟩

def pl531_0 : PC :=
.seq (.seq (Ar [5,6,16] [Am 15 6,Ae .geq 16 15 128]) (Aj 16 0)) (.blk 1 (.seq (An1 [5,6] 23 5 [Am 17 5,Am 18 6,Ae .rem 19 18 128,Ae .add 20 19 128,Ao 21 (.cvi .u8 (.t 20)),Ao 22 (.bsl 1 [.int .u8 0] 1 [(0,(.t 21))]),Ao 23 (.app 1 1 (.t 17) (.t 22)),Am 5 23]) (Ar [5,6] [Am 24 6,Ae .quo 25 24 128,Am 6 25])))
def pb531 : PC :=
.seq (Ar [0,1] [Ao 4 (.mv (.c (.nl 1)))]) (.seq (An1 [1,5] 8 5 [Am 7 0,Ac1 69 8 7,Am 5 8]) (.seq (.seq (Ar [1,5,11] [Am 9 1,Ac1 79 10 9,At 11 10]) (.cond (.t 11) (.seq (Ar [4,5] [Am 12 5,Am 4 12]) .ret) .skip)) (.seq (An1 [5,6] 14 6 [Am 13 1,Ac1 562 14 13,Am 6 14]) (.seq (.blk 0 (.loop pl531_0)) (.seq (An1 [4] 30 4 [Am 26 5,Am 27 6,Ao 28 (.cvi .u8 (.t 27)),Ao 29 (.bsl 1 [.int .u8 0] 1 [(0,(.t 28))]),Ao 30 (.app 1 1 (.t 26) (.t 29)),Am 4 30]) .ret)))))
def pf531 : PF:=⟨[.s 4],[],pb531⟩

def pb538 : PC :=
.seq (Ar [0,1,2,6] [⟨some 6,.alloc [A0,A0,A1],none⟩,Ak 7 0,Ao 8 (.mv (Aw false))]) (.seq (.seq (Ar [0,1,2,6,15] [Am 14 2,Ae .eql 15 14 1]) (.cond (.t 15) (.seq (An1 [2,6,9,10,11] 19 9 [Am 17 0,Am 18 1,Ac2 491 19 17 18,Am 16 19,Ax 20 16 0,Ax 21 16 1,Ax 22 16 2,Am 9 20,Am 10 21,Am 11 22]) (.seq (.seq (Ar [2,6,9,10,24] [Am 23 11,At 24 23]) (.cond (.t 24) (.seq (Ar [6,7,8] [⟨some 25,.build [A0,A0,A1] [],none⟩,As 3 6 25,Ak 7 0,Ao 8 (.mv (Aw false))]) .ret) .skip)) (.seq (Ar [6,7,8,9] [Am 26 2,Am 27 9,⟨some 28,.build [A0,A0,A1] [(0,1,(.t 26)),(1,1,(.t 27))],none⟩,Am 29 10,As 3 6 28,Am 7 29,Ao 8 (.mv (Aw true))]) .ret))) .skip)) (.seq (.seq (Ar [0,1,2,6,39] [Am 30 2,Ae .neq 31 30 2,Am 32 31,Ah 33 (.mv (.t 1)) 32,Ah 34 (.mv (.t 0)) 32,Ah 35 (.len (.t 34)) 32,Ah 36 (.bin .sub (.t 35) (Av 1)) 32,Ah 37 (.call 377 [] [(.t 33),(Av 0),(.t 36)]) 32,Ah 38 (.un .not (.t 37)) 32,Ap1 39 32 true 38]) (.cond (.t 39) (.seq (Ar [6,7,8] [⟨some 40,.build [A0,A0,A1] [],none⟩,As 3 6 40,Ak 7 0,Ao 8 (.mv (Aw false))]) .ret) .skip)) (.seq (An1 [0,1,2,6,12] 45 12 [Am 41 0,Am 42 1,Ai 1 43 41 42,Al 44 43,Ao 45 (.cvi .i64 (.t 44)),Am 12 45]) (.seq (.seq (Ar [0,1,2,6,12,52] [Am 46 12,Am 47 0,Az 48 47,Am 49 1,Ab .sub 50 48 49,Ae .sub 51 50 1,Ab .gtr 52 46 51]) (.cond (.t 52) (.seq (Ar [6,7,8] [⟨some 53,.build [A0,A0,A1] [],none⟩,As 3 6 53,Ak 7 0,Ao 8 (.mv (Aw false))]) .ret) .skip)) (.seq (Ar [1,6,12,13] [Am 54 2,Am 55 0,Am 56 1,Ae .add 57 56 1,Am 58 1,Ae .add 59 58 1,Am 60 12,Ab .add 61 59 60,Ao 62 (.slc 1 (.t 55) (some (.t 57)) (some (.t 61))),Ao 63 (.cvs (.t 62)),⟨some 64,.build [A0,A0,A1] [(0,1,(.t 54)),(2,1,(.t 63))],none⟩,⟨some 13,.alloc [A0,A0,A1],none⟩,As 3 13 64]) (.seq (.seq (Ar [1,6,12,13,67] [AL' 3 65 13,Ac1 341 66 65,At 67 66]) (.cond (.t 67) (.seq (Ar [6,7,8] [⟨some 68,.build [A0,A0,A1] [],none⟩,As 3 6 68,Ak 7 0,Ao 8 (.mv (Aw false))]) .ret) .skip)) (.seq (Ar [6,7,8] [AL' 3 69 13,Am 70 1,Ae .add 71 70 1,Am 72 12,Ab .add 73 71 72,As 3 6 69,Am 7 73,Ao 8 (.mv (Aw true))]) .ret)))))))
def pf538 : PF:=⟨[.b 6 3 true,.s 7,.s 8],[],pb538⟩

def pl539_0 : PC :=
.seq (.seq (Ar [0,3,4,5,37] [Am 31 5,Am 32 0,Am 33 4,Ai 4 34 32 33,Af 35 34 3,Al 36 35,Ab .lss 37 31 36]) (Aj 37 2)) (.seq (.blk 3 (An1 [0,3,4,5] 47 3 [Am 40 3,Am 41 0,Am 42 4,Ai 4 43 41 42,Af 44 43 0,AL' 3 45 44,⟨some 46,.bsl 3 [A2,A2,A3] 1 [(0,(.t 45))],none⟩,Ao 47 (.app 3 32 (.t 40) (.t 46)),Am 3 47])) (Ar [0,3,4,5] [Am 38 5,Ae .add 39 38 1,Am 5 39]))
def pl539_1 : PC :=
.seq (.seq (Ar [0,3,4,10] [Am 7 4,Am 8 0,Az 9 8,Ab .lss 10 7 9]) (Aj 10 0)) (.seq (.blk 1 (.seq (.seq (Ar [0,3,4,29] [Am 13 0,Am 14 4,Ai 4 15 13 14,Af 16 15 3,Al 17 16,Ae .lss 18 17 1,Am 19 18,Ah 20 (.mv (.t 0)) 19,Ah 21 (.mv (.t 4)) 19,Ah 22 (.iad 4 (.t 20) (.t 21)) 19,Ah 23 (.fad (.t 22) 3) 19,Ah 24 (.ld false 1 (.t 23)) 19,Ah 25 (.mv (.t 3)) 19,Ah 26 (.len (.t 25)) 19,Ah 27 (.bin .sub (Av 64) (.t 26)) 19,Ah 28 (.bin .gtr (.t 24) (.t 27)) 19,Ap1 29 19 true 28]) (.cond (.t 29) (.seq (An1 [2] 30 2 [Ao 30 (.bsl 3 [] 0 []),Am 2 30]) .ret) .skip)) (.seq (Ar [0,3,4,5] [Ak 5 0]) (.blk 2 (.loop pl539_0))))) (Ar [0,3,4] [Am 11 4,Ae .add 12 11 1,Am 4 12]))
def pb539 : PC :=
.seq (Ar [0] [Ao 2 (.mv (.c (.nl 3)))]) (.seq (An1 [0,3] 6 3 [Ao 6 (.bsl 3 [] 0 []),Am 3 6]) (.seq (.seq (Ar [0,3,4] [Ak 4 0]) (.blk 0 (.loop pl539_1))) (.seq (Ar [2,3] [Am 48 3,Am 2 48]) .ret)))
def pf539 : PF:=⟨[.s 2],[],pb539⟩

def pl540_0 : PC :=
.seq (.seq (Ar [3,4,5,19] [Am 16 5,Am 17 3,Az 18 17,Ab .lss 19 16 18]) (Aj 19 0)) (.seq (.blk 1 (.reg [3,4,5] [(34,4)] [Am 22 4,Am 23 3,Am 24 5,Ai 4 25 23 24,Af 26 25 3,Al 27 26,Ac2 566 28 22 27,Am 29 3,Am 30 5,Ai 4 31 29 30,Af 32 31 0,AL' 3 33 32,Ac2 569 34 28 33,Am 4 34] (some [(6,9),(6,11)]))) (Ar [3,4,5] [Am 20 5,Ae .add 21 20 1,Am 5 21]))
def pb540 : PC :=
.seq (Ar [0] [Ao 2 (.mv (.c (.nl 1)))]) (.seq (.seq (Ar [0,8] [Am 6 0,Ac1 518 7 6,Ae .eql 8 7 0]) (.cond (.t 8) (.seq (An1 [2] 9 2 [Ao 9 (.bsl 1 [] 0 []),Am 2 9]) .ret) .skip)) (.seq (An1 [3] 11 3 [Am 10 0,Ac1 568 11 10,Am 3 11]) (.seq (An1 [3,4] 15 4 [Ao 12 (.bsl 1 [] 0 []),Am 13 3,Az 14 13,Ac2 566 15 12 14,Am 4 15]) (.seq (.seq (Ar [3,4,5] [Ak 5 0]) (.blk 0 (.loop pl540_0))) (.seq (Ar [2,4] [Am 35 4,Am 2 35]) .ret)))))
def pf540 : PF:=⟨[.s 2],[],pb540⟩

def pl541_0 : PC :=
.seq (.seq (Ar [0,8,12,63] [Am 59 12,Am 60 0,Az 61 60,Ao 62 (.bin .mul (Av 8) (.t 61)),Ab .lss 63 59 62]) (Aj 63 4)) (.seq (.blk 5 (.seq (Ar [0,8,12,69] [Am 66 0,Am 67 12,Ac2 571 68 66 67,Ae .neq 69 68 0]) (.cond (.t 69) (.seq (An1 [6,7] 70 6 [Ao 70 (.bsl 1 [] 0 []),Am 6 70,Ao 7 (.mv (Aw false))]) .ret) .skip))) (Ar [0,8,12] [Am 64 12,Ae .add 65 64 1,Am 12 65]))
def pl541_1 : PC :=
.seq (.seq (Ar [0,1,2,8,9,10,11,38] [Am 36 11,Am 37 1,Ab .lss 38 36 37]) (Aj 38 2)) (.seq (.blk 3 (Ar [0,1,2,8,9,10,11] [Am 41 10,Am 42 0,Am 43 9,Am 44 1,Ab .mul 45 43 44,Am 46 11,Ab .add 47 45 46,Ac2 571 48 42 47,Am 49 11,Ab .shl 50 48 49,Ab .or 51 41 50,Am 10 51])) (Ar [0,1,2,8,9,10,11] [Am 39 11,Ae .add 40 39 1,Am 11 40]))
def pl541_2 : PC :=
.seq (.seq (Ar [0,1,2,8,9,33] [Am 31 9,Am 32 2,Ab .lss 33 31 32]) (Aj 33 0)) (.seq (.blk 1 (.seq (Ar [0,1,2,8,9,10] [Ak 10 0]) (.seq (.seq (Ar [0,1,2,8,9,10,11] [Ak 11 0]) (.blk 2 (.loop pl541_1))) (An1 [0,1,2,8,9] 55 8 [Am 52 8,Am 53 10,Ao 54 (.bsl 1 [A2] 1 [(0,(.t 53))]),Ao 55 (.app 1 8 (.t 52) (.t 54)),Am 8 55])))) (Ar [0,1,2,8,9] [Am 34 9,Ae .add 35 34 1,Am 9 35]))
def pb541 : PC :=
.seq (Ar [0,1,2] [Ao 6 (.mv (.c (.nl 1))),Ao 7 (.mv (Aw false))]) (.seq (An1 [0,1,2,8] 13 8 [Ao 13 (.bsl 1 [] 0 []),Am 8 13]) (.seq (.seq (Ar [0,1,2,8,29] [Am 14 2,Ao 15 (.call 377 [] [(.t 14),(Av 0),(Av 64)]),At 16 15,Am 17 16,Ah 18 (.mv (.t 1)) 17,Ah 19 (.call 377 [] [(.t 18),(Av 0),(Av 31)]) 17,Ah 20 (.un .not (.t 19)) 17,Ap1 21 17 true 20,Am 22 21,Ah 23 (.mv (.t 0)) 22,Ah 24 (.len (.t 23)) 22,Ah 25 (.mv (.t 2)) 22,Ah 26 (.mv (.t 1)) 22,Ah 27 (.call 570 [] [(.t 25),(.t 26)]) 22,Ah 28 (.bin .neq (.t 24) (.t 27)) 22,Ap1 29 22 true 28]) (.cond (.t 29) (.seq (Ar [6,7,8] [Am 30 8,Am 6 30,Ao 7 (.mv (Aw false))]) .ret) .skip)) (.seq (.seq (Ar [0,1,2,8,9] [Ak 9 0]) (.blk 0 (.loop pl541_2))) (.seq (.seq (Ar [0,8,12] [Am 56 2,Am 57 1,Ab .mul 58 56 57,Am 12 58]) (.blk 4 (.loop pl541_0))) (.seq (Ar [6,7,8] [Am 71 8,Am 6 71,Ao 7 (.mv (Aw true))]) .ret)))))
def pf541 : PF:=⟨[.s 6,.s 7],[],pb541⟩

def pl542_0 : PC :=
.seq (.seq (Ar [3,4,10] [Am 9 4,Ae .gtr 10 9 0]) (Aj 10 0)) (.seq (.blk 1 (Ar [3,4] [Am 13 3,Ae .add 14 13 1,Am 3 14])) (Ar [3,4] [Am 11 4,Ae .quo 12 11 2,Am 4 12]))
def pb542 : PC :=
.seq (Ar [0] [Ak 2 0]) (.seq (.seq (Ar [0,7] [Am 5 0,Ao 6 (.call 377 [] [(.t 5),(Av 0),(Av 2147483647)]),At 7 6]) (.cond (.t 7) (.seq (Ar [2] [Ak 2 0]) .ret) .skip)) (.seq (Ar [0,3] [Ak 3 0]) (.seq (.seq (Ar [3,4] [Am 8 0,Am 4 8]) (.blk 0 (.loop pl542_0))) (.seq (Ar [2] [Am 15 3,Am 2 15]) .ret))))
def pf542 : PF:=⟨[.s 2],[],pb542⟩

def pl543_0 : PC :=
.seq (.seq (Ar [0,1,6,7,12] [Am 9 7,Am 10 1,Az 11 10,Ab .lss 12 9 11]) (Aj 12 0)) (.seq (.blk 1 (.seq (.seq (Ar [0,1,6,7,23] [Am 15 1,Am 16 7,Ai 1 17 15 16,Al 18 17,Am 19 0,Az 20 19,Ae .sub 21 20 1,Ao 22 (.call 377 [] [(.t 18),(Av 0),(.t 21)]),At 23 22]) (.cond (.t 23) (.seq (An1 [4,5] 24 4 [Ao 24 (.bsl 3 [] 0 []),Am 4 24,Ao 5 (.mv (Aw false))]) .ret) .skip)) (An1 [0,1,6,7] 34 6 [Am 25 6,Am 26 0,Am 27 1,Am 28 7,Ai 1 29 27 28,Al 30 29,Ai 3 31 26 30,AL' 3 32 31,⟨some 33,.bsl 3 [A2,A2,A3] 1 [(0,(.t 32))],none⟩,Ao 34 (.app 3 32 (.t 25) (.t 33)),Am 6 34]))) (Ar [0,1,6,7] [Am 13 7,Ae .add 14 13 1,Am 7 14]))
def pb543 : PC :=
.seq (Ar [0,1] [Ao 4 (.mv (.c (.nl 3))),Ao 5 (.mv (Aw false))]) (.seq (An1 [0,1,6] 8 6 [Ao 8 (.bsl 3 [] 0 []),Am 6 8]) (.seq (.seq (Ar [0,1,6,7] [Ak 7 0]) (.blk 0 (.loop pl543_0))) (.seq (Ar [4,5,6] [Am 35 6,Am 4 35,Ao 5 (.mv (Aw true))]) .ret)))
def pf543 : PF:=⟨[.s 4,.s 5],[],pb543⟩

def pl544_0 : PC :=
.seq (.seq (Ar [3,4,6,7,27] [Am 24 7,Am 25 3,Az 26 25,Ab .lss 27 24 26]) (Aj 27 0)) (.seq (.blk 1 (An1 [3,4,6,7] 35 6 [Am 30 6,Am 31 3,Am 32 7,Ai 3 33 31 32,AL' 3 34 33,Ac2 569 35 30 34,Am 6 35])) (Ar [3,4,6,7] [Am 28 7,Ae .add 29 28 1,Am 7 29]))
def pb544 : PC :=
.seq (Ar [0] [Ao 2 (.mv (.c (.nl 1)))]) (.seq (.seq (Ar [0,10] [Am 8 0,Ac1 518 9 8,Ae .eql 10 9 0]) (.cond (.t 10) (.seq (An1 [2] 11 2 [Ao 11 (.bsl 1 [] 0 []),Am 2 11]) .ret) .skip)) (.seq (An1 [0,3] 13 3 [Am 12 0,Ac1 572 13 12,Am 3 13]) (.seq (An1 [3,4] 17 4 [Am 15 3,Am 16 0,Ac2 573 17 15 16,Am 14 17,Ax 18 14 0,Ax 19 14 1,Am 4 18,Am 5 19]) (.seq (An1 [3,4,6] 23 6 [Ao 20 (.bsl 1 [] 0 []),Am 21 3,Az 22 21,Ac2 566 23 20 22,Am 6 23]) (.seq (.seq (Ar [3,4,6,7] [Ak 7 0]) (.blk 0 (.loop pl544_0))) (.seq (An1 [2] 43 2 [Am 36 6,Am 37 4,Am 38 3,Az 39 38,Ae .sub 40 39 1,Ac1 542 41 40,Ac2 574 42 37 41,Ao 43 (.app 1 1 (.t 36) (.t 42)),Am 2 43]) .ret))))))
def pf544 : PF:=⟨[.s 2],[],pb544⟩

def pl545_0 : PC :=
.seq (.seq (Ar [0,1,6,7,12] [Am 9 7,Am 10 1,Az 11 10,Ab .lss 12 9 11]) (Aj 12 0)) (.seq (.blk 1 (.seq (.seq (Ar [0,1,6,7,34] [Am 15 0,Ac1 384 16 15,At 17 16,Am 18 17,Ah 19 (.mv (.t 1)) 18,Ah 20 (.mv (.t 7)) 18,Ah 21 (.iad 1 (.t 19) (.t 20)) 18,Ah 22 (.ld false 1 (.t 21)) 18,Ah 23 (.call 377 [] [(.t 22),(Av 0),(Av 2000000000)]) 18,Ah 24 (.un .not (.t 23)) 18,Ap1 25 18 true 24,Am 26 25,Ah 27 (.mv (.t 0)) 26,Ah 28 (.mv (.t 1)) 26,Ah 29 (.mv (.t 7)) 26,Ah 30 (.iad 1 (.t 28) (.t 29)) 26,Ah 31 (.ld false 1 (.t 30)) 26,Ah 32 (.bin .add (.t 27) (.t 31)) 26,Ah 33 (.bin .gtr (.t 32) (Av 1000000000)) 26,Ap1 34 26 true 33]) (.cond (.t 34) (.seq (An1 [4,5] 35 4 [Ao 35 (.bsl 3 [] 0 []),Am 4 35,Ao 5 (.mv (Aw false))]) .ret) .skip)) (An1 [0,1,6,7] 45 6 [Am 36 6,Am 37 0,Am 38 1,Am 39 7,Ai 1 40 38 39,Al 41 40,Ab .add 42 37 41,⟨some 43,.build [A0,A0,A1] [(0,1,(Av 1)),(1,1,(.t 42))],none⟩,⟨some 44,.bsl 3 [A2,A2,A3] 1 [(0,(.t 43))],none⟩,Ao 45 (.app 3 32 (.t 36) (.t 44)),Am 6 45]))) (Ar [0,1,6,7] [Am 13 7,Ae .add 14 13 1,Am 7 14]))
def pb545 : PC :=
.seq (Ar [0,1] [Ao 4 (.mv (.c (.nl 3))),Ao 5 (.mv (Aw false))]) (.seq (An1 [0,1,6] 8 6 [Ao 8 (.bsl 3 [] 0 []),Am 6 8]) (.seq (.seq (Ar [0,1,6,7] [Ak 7 0]) (.blk 0 (.loop pl545_0))) (.seq (An1 [4,5,6] 48 5 [Am 46 6,Am 47 0,Ac1 384 48 47,Am 4 46,Am 5 48]) .ret)))
def pf545 : PF:=⟨[.s 4,.s 5],[],pb545⟩

def pb546 : PC :=
.seq (Ar [0] [Ao 2 (.mv (.c (.nl 1)))]) (.seq (.seq (Ar [0,7] [Am 5 0,Ac1 518 6 5,Ae .neq 7 6 1]) (.cond (.t 7) (.seq (An1 [2] 8 2 [Ao 8 (.bsl 1 [] 0 []),Am 2 8]) .ret) .skip)) (.seq (An1 [0,3] 10 3 [Am 9 0,Ac1 575 10 9,Am 3 10]) (.seq (An1 [0,3,4] 12 4 [Am 11 3,Ac1 576 12 11,Am 4 12]) (.seq (An1 [2] 24 2 [Ao 13 (.bsl 1 [] 0 []),Am 14 0,Ac1 577 15 14,Ac2 566 16 13 15,Am 17 4,Ao 18 (.cvi .u8 (.t 17)),Ao 19 (.bsl 1 [.int .u8 0] 1 [(0,(.t 18))]),Ao 20 (.app 1 1 (.t 16) (.t 19)),Am 21 3,Am 22 4,Ac2 574 23 21 22,Ao 24 (.app 1 1 (.t 20) (.t 23)),Am 2 24]) .ret))))
def pf546 : PF:=⟨[.s 2],[],pb546⟩

def pl547_0 : PC :=
.seq (.seq (Ar [0,3,4,5,6,16] [Am 15 6,Ae .leq 16 15 3]) (Aj 16 0)) (.seq (.blk 1 (.seq (Ar [0,3,4,5,6,7] [Am 19 6,Am 20 0,Ac2 548 21 19 20,Az 22 21,Am 7 22]) (.seq (Ar [0,3,4,5,6,7,33] [Am 23 6,Ae .neq 24 23 3,Am 25 24,Ah 26 (.mv (.t 3)) 25,Ah 27 (.bin .eql (.t 26) (Av 1)) 25,Ap1 28 25 true 27,Am 29 28,Ag 30 (.mv (.t 7)) 29,Ag 31 (.mv (.t 5)) 29,Ag 32 (.bin .lss (.t 30) (.t 31)) 29,Ap2 33 29 32 false]) (.cond (.t 33) (.seq (Ar [0,3,4,6,7] [Am 34 6,Am 4 34]) (Ar [0,3,4,5,6] [Am 35 7,Am 5 35])) .skip)))) (Ar [0,3,4,5,6] [Am 17 6,Ae .add 18 17 1,Am 6 18]))
def pb547 : PC :=
.seq (Ar [0] [Ak 2 0]) (.seq (An1 [0,3] 9 3 [Am 8 0,Ac1 518 9 8,Am 3 9]) (.seq (.seq (Ar [0,3,11] [Am 10 3,Ae .eql 11 10 0]) (.cond (.t 11) (.seq (Ar [2] [Ak 2 (-1)]) .ret) .skip)) (.seq (Ar [0,3,4] [Ak 4 0]) (.seq (Ar [0,3,4,5] [Am 12 0,Ac1 578 13 12,Az 14 13,Am 5 14]) (.seq (.seq (Ar [0,3,4,5,6] [Ak 6 1]) (.blk 0 (.loop pl547_0))) (.seq (Ar [2] [Am 36 4,Am 2 36]) .ret))))))
def pf547 : PF:=⟨[.s 2],[],pb547⟩

def pb548 : PC :=
.seq (Ar [0,1] [Ao 4 (.mv (.c (.nl 1)))]) (.seq (.seq (Ar [1,5] [Am 5 0]) (.blk 0 (.seq (Ar [1,5,6] [Ae .eql 7 5 0,Am 6 7]) (.cond (.t 6) (.seq (An1 [4] 9 4 [Am 8 1,Ac1 578 9 8,Am 4 9]) .ret) (.seq (Ar [1,5,10] [Ae .eql 11 5 1,Am 10 11]) (.cond (.t 10) (.seq (An1 [4] 13 4 [Am 12 1,Ac1 540 13 12,Am 4 13]) .ret) (.seq (Ar [1,5,14] [Ae .eql 15 5 2,Am 14 15]) (.cond (.t 14) (.seq (An1 [4] 17 4 [Am 16 1,Ac1 544 17 16,Am 4 17]) .ret) (.seq (Ar [1,18] [Ae .eql 19 5 3,Am 18 19]) (.cond (.t 18) (.seq (An1 [4] 21 4 [Am 20 1,Ac1 546 21 20,Am 4 21]) .ret) .skip)))))))))) (.seq (An1 [4] 22 4 [Ao 22 (.bsl 1 [] 0 []),Am 4 22]) .ret))
def pf548 : PF:=⟨[.s 4],[],pb548⟩

def pl549_0 : PC :=
.seq (.seq (Ar [0,1,2,3,11,12,19] [Am 17 12,Am 18 3,Ab .lss 19 17 18]) (Aj 19 0)) (.seq (.blk 1 (.seq (An1 [0,2,3,11,12,13,14,15] 26 14 [Am 23 0,Am 24 1,Am 25 2,Ac3 551 26 23 24 25,Am 22 26,Ax 27 22 0,Ax 28 22 1,Ax 29 22 2,⟨some 13,.alloc [A0,A0,A1],none⟩,As 3 13 27,Am 14 28,Am 15 29]) (.seq (.seq (Ar [0,2,3,11,12,13,14,31] [Am 30 15,At 31 30]) (.cond (.t 31) (.seq (Ar [8,9,10] [Ao 8 (.mv (.c (.nl 3))),Ak 9 0,Ao 10 (.mv (Aw false))]) .ret) .skip)) (.seq (An1 [0,2,3,11,12,14] 35 11 [Am 32 11,AL' 3 33 13,⟨some 34,.bsl 3 [A2,A2,A3] 1 [(0,(.t 33))],none⟩,Ao 35 (.app 3 32 (.t 32) (.t 34)),Am 11 35]) (Ar [0,1,2,3,11,12,14] [Am 36 14,Am 1 36]))))) (Ar [0,1,2,3,11,12] [Am 20 12,Ae .add 21 20 1,Am 12 21]))
def pb549 : PC :=
.seq (Ar [0,1,2,3] [Ao 8 (.mv (.c (.nl 3))),Ak 9 0,Ao 10 (.mv (Aw false))]) (.seq (An1 [0,1,2,3,11] 16 11 [Ao 16 (.bsl 3 [] 0 []),Am 11 16]) (.seq (.seq (Ar [0,1,2,3,11,12] [Ak 12 0]) (.blk 0 (.loop pl549_0))) (.seq (Ar [8,9,10,11,14] [Am 37 11,Am 38 1,Am 8 37,Am 9 38,Ao 10 (.mv (Aw true))]) .ret)))
def pf549 : PF:=⟨[.s 8,.s 9,.s 10],[],pb549⟩

def pl550_0 : PC :=
.seq (Ar [3,11,12,13,14] [Ab .lss 14 13 12]) (.seq (Aj 14 0) (.seq (.blk 1 (.seq (Ar [3,5,11,12,13] [Ai 3 15 11 13,AL' 3 16 15,⟨some 5,.alloc [A0,A0,A1],none⟩,As 3 5 16]) (An1 [3,11,12,13] 19 3 [Am 17 3,AL' 3 18 5,Ac2 579 19 17 18,Am 3 19]))) (Ar [3,11,12,13] [Ae .add 20 13 1,Am 13 20])))
def pb550 : PC :=
.seq (Ar [0] [Ao 2 (.mv (.c (.nl 1)))]) (.seq (An1 [0,3] 6 3 [Ao 6 (.bsl 1 [] 0 []),Am 3 6]) (.seq (.seq (Ar [0,3,9] [Am 7 0,Ac1 526 8 7,Ae .eql 9 8 0]) (.cond (.t 9) (.seq (Ar [2,3] [Am 10 3,Am 2 10]) .ret) .skip)) (.seq (.seq (Ar [3,11,12,13] [Am 11 0,Az 12 11,Ak 13 0]) (.blk 0 (.loop pl550_0))) (.seq (Ar [2,3] [Am 21 3,Am 2 21]) .ret))))
def pf550 : PF:=⟨[.s 2],[],pb550⟩

def pb551 : PC :=
.seq (Ar [0,1,2,6] [⟨some 6,.alloc [A0,A0,A1],none⟩,Ak 7 0,Ao 8 (.mv (Aw false))]) (.seq (Ar [0,1,2,6,9] [Am 14 2,⟨some 15,.build [A0,A0,A1] [(0,1,(.t 14))],none⟩,⟨some 9,.alloc [A0,A0,A1],none⟩,As 3 9 15]) (.seq (Ar [0,1,2,6,9,10] [Ak 10 0]) (.seq (.blk 0 (.seq (Ar [0,1,2,6,9,10,16] [Am 17 2,Ae .eql 18 17 1,Am 16 18]) (.cond (.t 16) (.seq (An1 [6,9,11,12,13] 22 11 [Am 20 0,Am 21 1,Ac2 495 22 20 21,Am 19 22,Ax 23 19 0,Ax 24 19 1,Ax 25 19 2,Am 11 23,Am 12 24,Am 13 25]) (.seq (.seq (Ar [6,9,11,12,27] [Am 26 13,At 27 26]) (.cond (.t 27) (.seq (Ar [6,7,8] [⟨some 28,.build [A0,A0,A1] [],none⟩,As 3 6 28,Ak 7 0,Ao 8 (.mv (Aw false))]) .ret) .skip)) (Ar [6,9,10,11] [Am 29 11,Am 30 12,Af 31 9 1,As 1 31 29,Am 10 30]))) (.seq (Ar [0,1,6,9,10,32] [Am 33 2,Ae .eql 34 33 2,Am 35 34,Ag 36 (.mv (.t 1)) 35,Ag 37 (.bin .geq (.t 36) (Av 0)) 35,Ap2 38 35 37 false,Am 39 38,Ag 40 (.mv (.t 1)) 39,Ag 41 (.mv (.t 0)) 39,Ag 42 (.len (.t 41)) 39,Ag 43 (.bin .lss (.t 40) (.t 42)) 39,Ap2 44 39 43 false,Am 32 44]) (.cond (.t 32) (.seq (Ar [0,1,6,9,10] [Am 45 1,Ae .add 46 45 1,Am 47 0,Am 48 1,Ai 1 49 47 48,Al 50 49,Ao 51 (.cvi .i64 (.t 50)),Ab .add 52 46 51,Am 10 52]) (.seq (.seq (Ar [0,1,6,9,10,56] [Am 53 10,Am 54 0,Az 55 54,Ab .gtr 56 53 55]) (.cond (.t 56) (.seq (Ar [6,7,8] [⟨some 57,.build [A0,A0,A1] [],none⟩,As 3 6 57,Ak 7 0,Ao 8 (.mv (Aw false))]) .ret) .skip)) (Ar [6,9,10] [Am 58 0,Am 59 1,Ae .add 60 59 1,Am 61 10,Ao 62 (.slc 1 (.t 58) (some (.t 60)) (some (.t 61))),Ao 63 (.cvs (.t 62)),Af 64 9 2,As 1 64 63]))) .skip))))) (.seq (.seq (Ar [6,9,10,11,71] [AL' 3 65 9,Ac1 60 66 65,At 67 66,Am 68 67,Ah 69 (.mv (.t 10)) 68,Ah 70 (.bin .eql (.t 69) (Av 0)) 68,Ap1 71 68 true 70]) (.cond (.t 71) (.seq (Ar [6,7,8] [⟨some 72,.build [A0,A0,A1] [],none⟩,As 3 6 72,Ak 7 0,Ao 8 (.mv (Aw false))]) .ret) .skip)) (.seq (Ar [6,7,8,11] [AL' 3 73 9,Am 74 10,As 3 6 73,Am 7 74,Ao 8 (.mv (Aw true))]) .ret)))))
def pf551 : PF:=⟨[.b 6 3 true,.s 7,.s 8],[],pb551⟩

def pl552_0 : PC :=
.seq (.seq (Ar [3,5,6,8,9,10,28] [Am 25 6,Af 26 5 3,Al 27 26,Ab .lss 28 25 27]) (Aj 28 2)) (.seq (.blk 3 (An1 [3,5,6,8,9,10] 35 3 [Am 31 3,Af 32 5 0,AL' 3 33 32,⟨some 34,.bsl 3 [A2,A2,A3] 1 [(0,(.t 33))],none⟩,Ao 35 (.app 3 32 (.t 31) (.t 34)),Am 3 35])) (Ar [3,5,6,8,9,10] [Am 29 6,Ae .add 30 29 1,Am 6 30]))
def pl552_1 : PC :=
.seq (Ar [3,8,9,10,11] [Ab .lss 11 10 9]) (.seq (Aj 11 0) (.seq (.blk 1 (.seq (Ar [3,5,8,9,10] [Ai 4 12 8 10,AL' 4 13 12,⟨some 5,.alloc [A0,A0,A1,A0],none⟩,As 4 5 13]) (.seq (.seq (Ar [3,5,8,9,10,24] [Af 14 5 3,Al 15 14,Ae .lss 16 15 1,Am 17 16,Ah 18 (.fad (.t 5) 3) 17,Ah 19 (.ld false 1 (.t 18)) 17,Ah 20 (.mv (.t 3)) 17,Ah 21 (.len (.t 20)) 17,Ah 22 (.bin .sub (Av 64) (.t 21)) 17,Ah 23 (.bin .gtr (.t 19) (.t 22)) 17,Ap1 24 17 true 23]) (.cond (.t 24) (.seq (Ar [2] [Ao 2 (.mv (.c (.nl 3)))]) .ret) .skip)) (.seq (Ar [3,5,6,8,9,10] [Ak 6 0]) (.blk 2 (.loop pl552_0)))))) (Ar [3,8,9,10] [Ae .add 36 10 1,Am 10 36])))
def pb552 : PC :=
.seq (Ar [0] [Ao 2 (.mv (.c (.nl 3)))]) (.seq (An1 [0,3] 7 3 [Ao 7 (.bsl 3 [] 0 []),Am 3 7]) (.seq (.seq (Ar [3,8,9,10] [Am 8 0,Az 9 8,Ak 10 0]) (.blk 0 (.loop pl552_1))) (.seq (Ar [2,3] [Am 37 3,Am 2 37]) .ret)))
def pf552 : PF:=⟨[.s 2],[],pb552⟩

def pl553_0 : PC :=
.seq (Ar [3,4,18,19,20,21] [Ab .lss 21 20 19]) (.seq (Aj 21 0) (.seq (.blk 1 (.seq (Ar [3,4,6,18,19,20] [Ai 4 22 18 20,AL' 4 23 22,⟨some 6,.alloc [A0,A0,A1,A0],none⟩,As 4 6 23]) (.reg [3,4,18,19,20] [(30,3)] [Am 24 3,Af 25 6 3,Al 26 25,Ac2 531 27 24 26,Af 28 6 0,AL' 3 29 28,Ac2 579 30 27 29,Am 3 30] (some [(3,5)])))) (Ar [3,4,18,19,20] [Ae .add 31 20 1,Am 20 31])))
def pb553 : PC :=
.seq (Ar [0] [Ao 2 (.mv (.c (.nl 1)))]) (.seq (An1 [0,3] 7 3 [Ao 7 (.bsl 1 [] 0 []),Am 3 7]) (.seq (.seq (Ar [0,3,10] [Am 8 0,Ac1 526 9 8,Ae .eql 10 9 0]) (.cond (.t 10) (.seq (Ar [2,3] [Am 11 3,Am 2 11]) .ret) .skip)) (.seq (An1 [3,4] 13 4 [Am 12 0,Ac1 580 13 12,Am 4 13]) (.seq (An1 [3,4] 17 3 [Am 14 3,Am 15 4,Az 16 15,Ac2 531 17 14 16,Am 3 17]) (.seq (.seq (Ar [3,4,18,19,20] [Am 18 4,Az 19 18,Ak 20 0]) (.blk 0 (.loop pl553_0))) (.seq (Ar [2,3] [Am 32 3,Am 2 32]) .ret))))))
def pf553 : PF:=⟨[.s 2],[],pb553⟩

def pl554_0 : PC :=
.seq (.seq (Ar [0,8,12,62] [Am 58 12,Am 59 0,Az 60 59,Ao 61 (.bin .mul (Av 8) (.t 60)),Ab .lss 62 58 61]) (Aj 62 4)) (.seq (.blk 5 (.seq (Ar [0,8,12,68] [Am 65 0,Am 66 12,Ac2 582 67 65 66,Ae .neq 68 67 0]) (.cond (.t 68) (.seq (Ar [6,7] [Ao 6 (.mv (.c (.nl 1))),Ao 7 (.mv (Aw false))]) .ret) .skip))) (Ar [0,8,12] [Am 63 12,Ae .add 64 63 1,Am 12 64]))
def pl554_1 : PC :=
.seq (.seq (Ar [0,1,2,8,9,10,11,37] [Am 35 11,Am 36 1,Ab .lss 37 35 36]) (Aj 37 2)) (.seq (.blk 3 (Ar [0,1,2,8,9,10,11] [Am 40 10,Am 41 0,Am 42 9,Am 43 1,Ab .mul 44 42 43,Am 45 11,Ab .add 46 44 45,Ac2 582 47 41 46,Am 48 11,Ab .shl 49 47 48,Ab .or 50 40 49,Am 10 50])) (Ar [0,1,2,8,9,10,11] [Am 38 11,Ae .add 39 38 1,Am 11 39]))
def pl554_2 : PC :=
.seq (.seq (Ar [0,1,2,8,9,32] [Am 30 9,Am 31 2,Ab .lss 32 30 31]) (Aj 32 0)) (.seq (.blk 1 (.seq (Ar [0,1,2,8,9,10] [Ak 10 0]) (.seq (.seq (Ar [0,1,2,8,9,10,11] [Ak 11 0]) (.blk 2 (.loop pl554_1))) (An1 [0,1,2,8,9] 54 8 [Am 51 8,Am 52 10,Ao 53 (.bsl 1 [A2] 1 [(0,(.t 52))]),Ao 54 (.app 1 8 (.t 51) (.t 53)),Am 8 54])))) (Ar [0,1,2,8,9] [Am 33 9,Ae .add 34 33 1,Am 9 34]))
def pb554 : PC :=
.seq (Ar [0,1,2] [Ao 6 (.mv (.c (.nl 1))),Ao 7 (.mv (Aw false))]) (.seq (.seq (Ar [0,1,2,28] [Am 13 1,Ao 14 (.call 87 [] [(.t 13),(Av 0),(Av 31)]),At 15 14,Am 16 15,Ah 17 (.mv (.t 2)) 16,Ah 18 (.call 87 [] [(.t 17),(Av 0),(Av 64)]) 16,Ah 19 (.un .not (.t 18)) 16,Ap1 20 16 true 19,Am 21 20,Ah 22 (.mv (.t 0)) 21,Ah 23 (.len (.t 22)) 21,Ah 24 (.mv (.t 2)) 21,Ah 25 (.mv (.t 1)) 21,Ah 26 (.call 581 [] [(.t 24),(.t 25)]) 21,Ah 27 (.bin .neq (.t 23) (.t 26)) 21,Ap1 28 21 true 27]) (.cond (.t 28) (.seq (Ar [6,7] [Ao 6 (.mv (.c (.nl 1))),Ao 7 (.mv (Aw false))]) .ret) .skip)) (.seq (An1 [0,1,2,8] 29 8 [Ao 29 (.bsl 1 [] 0 []),Am 8 29]) (.seq (.seq (Ar [0,1,2,8,9] [Ak 9 0]) (.blk 0 (.loop pl554_2))) (.seq (.seq (Ar [0,8,12] [Am 55 2,Am 56 1,Ab .mul 57 55 56,Am 12 57]) (.blk 4 (.loop pl554_0))) (.seq (Ar [6,7,8] [Am 69 8,Am 6 69,Ao 7 (.mv (Aw true))]) .ret)))))
def pf554 : PF:=⟨[.s 6,.s 7],[],pb554⟩

def pb555 : PC :=
.seq (Ar [0] [Ak 2 0]) (.seq (.seq (Ar [0,5] [Am 3 0,Ao 4 (.call 87 [] [(.t 3),(Av 1),(Av 2147483647)]),At 5 4]) (.cond (.t 5) (.seq (Ar [2] [Ak 2 0]) .ret) .skip)) (.seq (An1 [2] 8 2 [Am 6 0,Ao 7 (.cvi .u64 (.t 6)),Ac1 583 8 7,Am 2 8]) .ret))
def pf555 : PF:=⟨[.s 2],[],pb555⟩

def pl556_0 : PC :=
.seq (Ar [0,6,10,11,12,13] [Ab .lss 13 12 11]) (.seq (Aj 13 0) (.seq (.blk 1 (.seq (Ar [0,6,8,10,11,12] [Ai 1 14 10 12,Al 15 14,Am 8 15]) (.seq (.seq (Ar [0,6,8,10,11,12,23] [Am 16 8,Ae .lss 17 16 0,Am 18 17,Ah 19 (.mv (.t 8)) 18,Ah 20 (.mv (.t 0)) 18,Ah 21 (.len (.t 20)) 18,Ah 22 (.bin .geq (.t 19) (.t 21)) 18,Ap1 23 18 true 22]) (.cond (.t 23) (.seq (Ar [4,5] [Ao 4 (.mv (.c (.nl 3))),Ao 5 (.mv (Aw false))]) .ret) .skip)) (An1 [0,6,10,11,12] 30 6 [Am 24 6,Am 25 0,Am 26 8,Ai 3 27 25 26,AL' 3 28 27,⟨some 29,.bsl 3 [A2,A2,A3] 1 [(0,(.t 28))],none⟩,Ao 30 (.app 3 32 (.t 24) (.t 29)),Am 6 30])))) (Ar [0,6,10,11,12] [Ae .add 31 12 1,Am 12 31])))
def pb556 : PC :=
.seq (Ar [0,1] [Ao 4 (.mv (.c (.nl 3))),Ao 5 (.mv (Aw false))]) (.seq (An1 [0,1,6] 9 6 [Ao 9 (.bsl 3 [] 0 []),Am 6 9]) (.seq (.seq (Ar [0,6,10,11,12] [Am 10 1,Az 11 10,Ak 12 0]) (.blk 0 (.loop pl556_0))) (.seq (Ar [4,5,6] [Am 32 6,Am 4 32,Ao 5 (.mv (Aw true))]) .ret)))
def pf556 : PF:=⟨[.s 4,.s 5],[],pb556⟩

def pl557_0 : PC :=
.seq (Ar [0,3,4,20,21,22,23] [Ab .lss 23 22 21]) (.seq (Aj 23 0) (.seq (.blk 1 (.seq (Ar [0,3,4,6,20,21,22] [Ai 3 24 20 22,AL' 3 25 24,⟨some 6,.alloc [A0,A0,A1],none⟩,As 3 6 25]) (An1 [0,3,4,20,21,22] 28 3 [Am 26 3,AL' 3 27 6,Ac2 579 28 26 27,Am 3 28]))) (Ar [0,3,4,20,21,22] [Ae .add 29 22 1,Am 22 29])))
def pb557 : PC :=
.seq (Ar [0] [Ao 2 (.mv (.c (.nl 1)))]) (.seq (An1 [0,3] 9 3 [Ao 9 (.bsl 1 [] 0 []),Am 3 9]) (.seq (.seq (Ar [0,3,12] [Am 10 0,Ac1 526 11 10,Ae .eql 12 11 0]) (.cond (.t 12) (.seq (Ar [2,3] [Am 13 3,Am 2 13]) .ret) .skip)) (.seq (An1 [0,3,4] 15 4 [Am 14 0,Ac1 584 15 14,Am 4 15]) (.seq (An1 [0,3,4] 19 3 [Am 16 3,Am 17 4,Az 18 17,Ac2 531 19 16 18,Am 3 19]) (.seq (.seq (Ar [0,3,4,20,21,22] [Am 20 4,Az 21 20,Ak 22 0]) (.blk 0 (.loop pl557_0))) (.seq (An1 [3,4,7] 33 7 [Am 31 4,Am 32 0,Ac2 585 33 31 32,Am 30 33,Ax 34 30 0,Ax 35 30 1,Am 7 34,Am 8 35]) (.seq (An1 [2] 43 2 [Am 36 3,Am 37 7,Am 38 4,Az 39 38,Ae .sub 40 39 1,Ac1 555 41 40,Ac2 586 42 37 41,Ao 43 (.app 1 1 (.t 36) (.t 42)),Am 2 43]) .ret)))))))
def pf557 : PF:=⟨[.s 2],[],pb557⟩

def pl558_0 : PC :=
.seq (Ar [0,6,13,14,15,16] [Ab .lss 16 15 14]) (.seq (Aj 16 0) (.seq (.blk 1 (.seq (Ar [0,6,8,13,14,15] [Ai 1 17 13 15,Al 18 17,Am 8 18]) (.seq (.seq (Ar [0,6,8,13,14,15,27] [Am 19 8,Ao 20 (.call 87 [] [(.t 19),(Av 0),(Av 2000000000)]),At 21 20,Am 22 21,Ah 23 (.mv (.t 0)) 22,Ah 24 (.mv (.t 8)) 22,Ah 25 (.bin .add (.t 23) (.t 24)) 22,Ah 26 (.bin .gtr (.t 25) (Av 1000000000)) 22,Ap1 27 22 true 26]) (.cond (.t 27) (.seq (Ar [4,5] [Ao 4 (.mv (.c (.nl 3))),Ao 5 (.mv (Aw false))]) .ret) .skip)) (An1 [0,6,13,14,15] 34 6 [Am 28 6,Am 29 0,Am 30 8,Ab .add 31 29 30,⟨some 32,.build [A0,A0,A1] [(0,1,(Av 1)),(1,1,(.t 31))],none⟩,⟨some 33,.bsl 3 [A2,A2,A3] 1 [(0,(.t 32))],none⟩,Ao 34 (.app 3 32 (.t 28) (.t 33)),Am 6 34])))) (Ar [0,6,13,14,15] [Ae .add 35 15 1,Am 15 35])))
def pb558 : PC :=
.seq (Ar [0,1] [Ao 4 (.mv (.c (.nl 3))),Ao 5 (.mv (Aw false))]) (.seq (.seq (Ar [0,1,11] [Am 9 0,Ac1 79 10 9,At 11 10]) (.cond (.t 11) (.seq (Ar [4,5] [Ao 4 (.mv (.c (.nl 3))),Ao 5 (.mv (Aw false))]) .ret) .skip)) (.seq (An1 [0,1,6] 12 6 [Ao 12 (.bsl 3 [] 0 []),Am 6 12]) (.seq (.seq (Ar [0,6,13,14,15] [Am 13 1,Az 14 13,Ak 15 0]) (.blk 0 (.loop pl558_0))) (.seq (Ar [4,5,6] [Am 36 6,Am 4 36,Ao 5 (.mv (Aw true))]) .ret))))
def pf558 : PF:=⟨[.s 4,.s 5],[],pb558⟩

def pb559 : PC :=
.seq (Ar [0] [Ao 2 (.mv (.c (.nl 1)))]) (.seq (.seq (Ar [0,7] [Am 5 0,Ac1 526 6 5,Ae .neq 7 6 1]) (.cond (.t 7) (.seq (Ar [2] [Ao 2 (.mv (.c (.nl 1)))]) .ret) .skip)) (.seq (An1 [0,3] 9 3 [Am 8 0,Ac1 587 9 8,Am 3 9]) (.seq (An1 [0,3,4] 11 4 [Am 10 3,Ac1 588 11 10,Am 4 11]) (.seq (An1 [2] 22 2 [Am 12 0,Ac1 589 13 12,Ao 14 (.call 531 [] [(.c (.nl 1)),(.t 13)]),Am 15 4,Ao 16 (.cvi .u8 (.t 15)),Ao 17 (.bsl 1 [.int .u8 0] 1 [(0,(.t 16))]),Ao 18 (.app 1 1 (.t 14) (.t 17)),Am 19 3,Am 20 4,Ac2 586 21 19 20,Ao 22 (.app 1 1 (.t 18) (.t 21)),Am 2 22]) .ret))))
def pf559 : PF:=⟨[.s 2],[],pb559⟩

def pl560_0 : PC :=
.seq (.seq (Ar [0,3,4,5,11] [Am 10 5,Ae .leq 11 10 3]) (Aj 11 0)) (.seq (.blk 1 (.seq (.seq (Ar [0,3,4,5,19] [Am 14 5,Ae .eql 15 14 3,Am 16 15,Ag 17 (.mv (.t 3)) 16,Ag 18 (.bin .neq (.t 17) (Av 1)) 16,Ap2 19 16 18 false]) (.cond (.t 19) (.exit 1) .skip)) (.seq (Ar [0,3,4,5,28] [Am 20 5,Am 21 0,Ac2 561 22 20 21,Az 23 22,Am 24 4,Am 25 0,Ac2 561 26 24 25,Az 27 26,Ab .lss 28 23 27]) (.cond (.t 28) (Ar [0,3,4,5] [Am 29 5,Am 4 29]) .skip)))) (Ar [0,3,4,5] [Am 12 5,Ae .add 13 12 1,Am 5 13]))
def pb560 : PC :=
.seq (Ar [0] [Ak 2 0]) (.seq (An1 [0,3] 7 3 [Am 6 0,Ac1 526 7 6,Am 3 7]) (.seq (.seq (Ar [0,3,9] [Am 8 3,Ae .eql 9 8 0]) (.cond (.t 9) (.seq (Ar [2] [Ak 2 (-1)]) .ret) .skip)) (.seq (Ar [0,3,4] [Ak 4 0]) (.seq (.seq (Ar [0,3,4,5] [Ak 5 1]) (.blk 0 (.loop pl560_0))) (.seq (Ar [2] [Am 30 4,Am 2 30]) .ret)))))
def pf560 : PF:=⟨[.s 2],[],pb560⟩

def pb561 : PC :=
.seq (Ar [0,1] [Ao 4 (.mv (.c (.nl 1)))]) (.seq (.seq (Ar [1,5] [Am 5 0]) (.blk 0 (.seq (Ar [1,5,6] [Ae .eql 7 5 0,Am 6 7]) (.cond (.t 6) (.seq (An1 [4] 9 4 [Am 8 1,Ac1 550 9 8,Am 4 9]) .ret) (.seq (Ar [1,5,10] [Ae .eql 11 5 1,Am 10 11]) (.cond (.t 10) (.seq (An1 [4] 13 4 [Am 12 1,Ac1 553 13 12,Am 4 13]) .ret) (.seq (Ar [1,5,14] [Ae .eql 15 5 2,Am 14 15]) (.cond (.t 14) (.seq (An1 [4] 17 4 [Am 16 1,Ac1 557 17 16,Am 4 17]) .ret) (.seq (Ar [1,18] [Ae .eql 19 5 3,Am 18 19]) (.cond (.t 18) (.seq (An1 [4] 21 4 [Am 20 1,Ac1 559 21 20,Am 4 21]) .ret) .skip)))))))))) (.seq (Ar [4] [Ao 4 (.mv (.c (.nl 1)))]) .ret))
def pf561 : PF:=⟨[.s 4],[],pb561⟩

def pb562 : PC :=
.seq (Ar [0] [Ak 2 0]) (.seq (.seq (Ar [0,5] [Am 3 0,Ac1 79 4 3,At 5 4]) (.cond (.t 5) (.seq (Ar [2] [Ak 2 0]) .ret) .skip)) (.seq (.seq (Ar [0,7] [Am 6 0,Ae .lss 7 6 0]) (.cond (.t 7) (.seq (Ar [2] [Am 8 0,Ao 9 (.bin .mul (Av (-2)) (.t 8)),Ae .sub 10 9 1,Am 2 10]) .ret) .skip)) (.seq (Ar [2] [Am 11 0,Ao 12 (.bin .mul (Av 2) (.t 11)),Am 2 12]) .ret)))
def pf562 : PF:=⟨[.s 2],[],pb562⟩

def pl566_0 : PC :=
.seq (.seq (Ar [5,6,17] [Am 16 6,Ae .gtr 17 16 127]) (Aj 17 0)) (.blk 1 (.seq (An1 [5,6] 24 5 [Am 18 5,Am 19 6,Ae .rem 20 19 128,Ao 21 (.bin .add (Av 128) (.t 20)),Ao 22 (.cvi .u8 (.t 21)),Ao 23 (.bsl 1 [.int .u8 0] 1 [(0,(.t 22))]),Ao 24 (.app 1 1 (.t 18) (.t 23)),Am 5 24]) (Ar [5,6] [Am 25 6,Ae .quo 26 25 128,Am 6 26])))
def pb566 : PC :=
.seq (Ar [0,1] [Ao 4 (.mv (.c (.nl 1)))]) (.seq (An1 [1,5] 9 5 [Ao 7 (.bsl 1 [] 0 []),Am 8 0,Ao 9 (.app 1 1 (.t 7) (.t 8)),Am 5 9]) (.seq (.seq (Ar [1,5,12] [Am 10 1,Ac1 384 11 10,At 12 11]) (.cond (.t 12) (.seq (Ar [4,5] [Am 13 5,Am 4 13]) .ret) .skip)) (.seq (An1 [5,6] 15 6 [Am 14 1,Ac1 590 15 14,Am 6 15]) (.seq (.blk 0 (.loop pl566_0)) (.seq (An1 [4] 31 4 [Am 27 5,Am 28 6,Ao 29 (.cvi .u8 (.t 28)),Ao 30 (.bsl 1 [.int .u8 0] 1 [(0,(.t 29))]),Ao 31 (.app 1 1 (.t 27) (.t 30)),Am 4 31]) .ret)))))
def pf566 : PF:=⟨[.s 4],[],pb566⟩

def pl568_0 : PC :=
.seq (.seq (Ar [0,3,4,10] [Am 7 4,Am 8 0,Az 9 8,Ab .lss 10 7 9]) (Aj 10 0)) (.seq (.blk 1 (.seq (Ar [0,3,4,5] [Am 13 3,Az 14 13,Am 5 14]) (.seq (Aq [0,3,4,5,29] [Am 15 5,Ae .gtr 16 15 0,Am 17 16,Ag 18 (.mv (.t 3)) 17,Ag 19 (.mv (.t 5)) 17,Ag 20 (.bin .sub (.t 19) (Av 1)) 17,Ag 21 (.iad 4 (.t 18) (.t 20)) 17,Ag 22 (.fad (.t 21) 0) 17,Ag 23 (.ld true 3 (.t 22)) 17,Ag 24 (.mv (.t 0)) 17,Ag 25 (.mv (.t 4)) 17,Ag 26 (.iad 3 (.t 24) (.t 25)) 17,Ag 27 (.ld true 3 (.t 26)) 17,Ag 28 (.eqs false [0,0,2] (.t 23) (.t 27)) 17,Ap2 29 17 28 false]) (.cond (.t 29) (Ar [0,3,4] [Am 30 3,Am 31 5,Ae .sub 32 31 1,Am 33 3,Am 34 5,Ae .sub 35 34 1,Ai 4 36 33 35,Af 37 36 3,Al 38 37,Ae .add 39 38 1,Ai 4 40 30 32,Af 41 40 3,As 1 41 39]) (An1 [0,3,4] 49 3 [Am 42 3,Am 43 0,Am 44 4,Ai 3 45 43 44,AL' 3 46 45,⟨some 47,.build [A0,A0,A1,A0] [(0,3,(.t 46)),(3,1,(Av 1))],none⟩,⟨some 48,.bsl 4 [A2,A2,A3,A2] 1 [(0,(.t 47))],none⟩,Ao 49 (.app 4 40 (.t 42) (.t 48)),Am 3 49]))))) (Ar [0,3,4] [Am 11 4,Ae .add 12 11 1,Am 4 12]))
def pb568 : PC :=
.seq (Ar [0] [Ao 2 (.mv (.c (.nl 4)))]) (.seq (An1 [0,3] 6 3 [Ao 6 (.bsl 4 [] 0 []),Am 3 6]) (.seq (.seq (Ar [0,3,4] [Ak 4 0]) (.blk 0 (.loop pl568_0))) (.seq (Ar [2,3] [Am 50 3,Am 2 50]) .ret)))
def pf568 : PF:=⟨[.s 2],[],pb568⟩

def pb569 : PC :=
.seq (Ar [0,3] [Ao 3 (.box 3 (.t 1)),Ao 4 (.mv (.c (.nl 1)))]) (.seq (An1 [3,5] 8 5 [Ao 6 (.bsl 1 [] 0 []),Am 7 0,Ao 8 (.app 1 1 (.t 6) (.t 7)),Am 5 8]) (.seq (.seq (Ar [3,5,11] [AL' 3 9 3,Ac1 341 10 9,At 11 10]) (.cond (.t 11) (.seq (Ar [4,5] [Am 12 5,Am 4 12]) .ret) .skip)) (.seq (.seq (Ar [3,5,15] [Af 13 3 0,Al 14 13,Ae .eql 15 14 1]) (.cond (.t 15) (.seq (An1 [4] 19 4 [Am 16 5,Af 17 3 1,Al 18 17,Ac2 566 19 16 18,Am 4 19]) .ret) .skip)) (.seq (.reg [4] [(29,4)] [Am 20 5,Af 21 3 2,Al 22 21,Ao 23 (.lens (.t 22)),Ao 24 (.cvi .u8 (.t 23)),Ao 25 (.bsl 1 [.int .u8 0] 1 [(0,(.t 24))]),Ao 26 (.app 1 1 (.t 20) (.t 25)),Af 27 3 2,Al 28 27,Ao 29 (.apps (.t 26) (.t 28)),Am 4 29] (some [(4,8),(5,8),(6,8)])) .ret))))
def pf569 : PF:=⟨[.s 4],[],pb569⟩

def pb570 : PC :=
.seq (Ar [0,1] [Ak 4 0]) (.seq (.seq (Ar [0,1,12] [Am 5 0,Ao 6 (.call 377 [] [(.t 5),(Av 0),(Av 64)]),At 7 6,Am 8 7,Ah 9 (.mv (.t 1)) 8,Ah 10 (.call 377 [] [(.t 9),(Av 0),(Av 31)]) 8,Ah 11 (.un .not (.t 10)) 8,Ap1 12 8 true 11]) (.cond (.t 12) (.seq (Ar [4] [Ak 4 0]) .ret) .skip)) (.seq (Ar [4] [Am 13 0,Am 14 1,Ab .mul 15 13 14,Ae .add 16 15 7,Ae .quo 17 16 8,Am 4 17]) .ret))
def pf570 : PF:=⟨[.s 4],[],pb570⟩

def pb571 : PC :=
.seq (Ar [0,1] [Ak 4 0]) (.seq (.seq (Ar [0,1,13] [Am 5 1,Ae .lss 6 5 0,Am 7 6,Ah 8 (.mv (.t 1)) 7,Ah 9 (.bin .quo (.t 8) (Av 8)) 7,Ah 10 (.mv (.t 0)) 7,Ah 11 (.len (.t 10)) 7,Ah 12 (.bin .geq (.t 9) (.t 11)) 7,Ap1 13 7 true 12]) (.cond (.t 13) (.seq (Ar [4] [Ak 4 0]) .ret) .skip)) (.seq (Ar [4] [Am 14 0,Am 15 1,Ae .quo 16 15 8,Ai 1 17 14 16,Al 18 17,Ao 19 (.cvi .i64 (.t 18)),Am 20 1,Ae .rem 21 20 8,Ab .shr 22 19 21,Ae .and 23 22 1,Am 4 23]) .ret))
def pf571 : PF:=⟨[.s 4],[],pb571⟩

def pl572_0 : PC :=
.seq (.seq (.reg [0,3,4,5,27] [(26,27)] [Am 13 5,Am 14 3,Az 15 14,Ab .lss 16 13 15,Am 17 16,Ag 18 (.mv (.t 3)) 17,Ag 19 (.mv (.t 5)) 17,Ag 20 (.iad 3 (.t 18) (.t 19)) 17,Ag 21 (.ld true 3 (.t 20)) 17,Ag 22 (.mv (.t 0)) 17,Ag 23 (.mv (.t 4)) 17,Ag 24 (.iad 3 (.t 22) (.t 23)) 17,Ag 25 (.ld true 3 (.t 24)) 17,Ag 26 (.call 505 [] [(.t 21),(.t 25)]) 17,Ap2 27 17 26 false] (some [])) (Aj 27 2)) (.blk 3 (Ar [0,3,4,5] [Am 28 5,Ae .add 29 28 1,Am 5 29]))
def pl572_1 : PC :=
.seq (.seq (Ar [0,3,4,10] [Am 7 4,Am 8 0,Az 9 8,Ab .lss 10 7 9]) (Aj 10 0)) (.seq (.blk 1 (.seq (Ar [0,3,4,5] [Ak 5 0]) (.seq (.blk 2 (.loop pl572_0)) (.seq (Aq [0,3,4,5,44] [Am 30 5,Am 31 3,Az 32 31,Ab .eql 33 30 32,Am 34 33,Ah 35 (.mv (.t 3)) 34,Ah 36 (.mv (.t 5)) 34,Ah 37 (.iad 3 (.t 35) (.t 36)) 34,Ah 38 (.ld true 3 (.t 37)) 34,Ah 39 (.mv (.t 0)) 34,Ah 40 (.mv (.t 4)) 34,Ah 41 (.iad 3 (.t 39) (.t 40)) 34,Ah 42 (.ld true 3 (.t 41)) 34,Ah 43 (.eqs true [0,0,2] (.t 38) (.t 42)) 34,Ap1 44 34 true 43]) (.cond (.t 44) (.reg [0,3,4] [(59,3)] [Ao 45 (.bsl 3 [] 0 []),Am 46 3,Am 47 5,Ao 48 (.slc 3 (.t 46) none (some (.t 47))),Ao 49 (.appf 3 32 (.t 45) (.t 48)),Am 50 0,Am 51 4,Ai 3 52 50 51,AL' 3 53 52,⟨some 54,.bsl 3 [A2,A2,A3] 1 [(0,(.t 53))],none⟩,Ao 55 (.appf 3 32 (.t 49) (.t 54)),Am 56 3,Am 57 5,Ao 58 (.slc 3 (.t 56) (some (.t 57)) none),Ao 59 (.appf 3 32 (.t 55) (.t 58)),Am 3 59] (some [(0,3),(0,7),(4,7),(0,8),(4,8),(0,9),(3,9),(4,9),(0,13),(4,13),(9,13),(10,13)])) .skip))))) (Ar [0,3,4] [Am 11 4,Ae .add 12 11 1,Am 4 12]))
def pb572 : PC :=
.seq (Ar [0] [Ao 2 (.mv (.c (.nl 3)))]) (.seq (An1 [0,3] 6 3 [Ao 6 (.bsl 3 [] 0 []),Am 3 6]) (.seq (.seq (Ar [0,3,4] [Ak 4 0]) (.blk 0 (.loop pl572_1))) (.seq (Ar [2,3] [Am 60 3,Am 2 60]) .ret)))
def pf572 : PF:=⟨[.s 2],[],pb572⟩

def pl573_0 : PC :=
.seq (.seq (Ar [0,1,6,7,13] [Am 10 7,Am 11 1,Az 12 11,Ab .lss 13 10 12]) (Aj 13 0)) (.seq (.blk 1 (.seq (An1 [0,1,6,7,8] 21 8 [Am 16 0,Am 17 1,Am 18 7,Ai 3 19 17 18,AL' 3 20 19,Ac2 591 21 16 20,Am 8 21]) (.seq (.seq (Ar [0,1,6,7,8,23] [Am 22 8,Ae .lss 23 22 0]) (.cond (.t 23) (.seq (An1 [4,5] 24 4 [Ao 24 (.bsl 1 [] 0 []),Am 4 24,Ao 5 (.mv (Aw false))]) .ret) .skip)) (An1 [0,1,6,7] 28 6 [Am 25 6,Am 26 8,Ao 27 (.bsl 1 [A2] 1 [(0,(.t 26))]),Ao 28 (.app 1 8 (.t 25) (.t 27)),Am 6 28])))) (Ar [0,1,6,7] [Am 14 7,Ae .add 15 14 1,Am 7 15]))
def pb573 : PC :=
.seq (Ar [0,1] [Ao 4 (.mv (.c (.nl 1))),Ao 5 (.mv (Aw false))]) (.seq (An1 [0,1,6] 9 6 [Ao 9 (.bsl 1 [] 0 []),Am 6 9]) (.seq (.seq (Ar [0,1,6,7] [Ak 7 0]) (.blk 0 (.loop pl573_0))) (.seq (Ar [4,5,6] [Am 29 6,Am 4 29,Ao 5 (.mv (Aw true))]) .ret)))
def pf573 : PF:=⟨[.s 4,.s 5],[],pb573⟩

def pl574_0 : PC :=
.seq (.seq (Ar [0,1,5,6,7,8,23] [Am 21 8,Am 22 1,Ab .lss 23 21 22]) (Aj 23 2)) (.seq (.blk 3 (.seq (.seq (Ar [0,1,5,6,7,8,28] [Am 26 6,Ae .rem 27 26 8,Ae .eql 28 27 0]) (.cond (.t 28) (An1 [0,1,5,6,7,8] 31 5 [Am 29 5,Ao 30 (.bsl 1 [.int .u8 0] 1 [(0,(.c (.v false (.int .u8 0))))]),Ao 31 (.app 1 1 (.t 29) (.t 30)),Am 5 31]) .skip)) (.seq (.seq (Ar [0,1,5,6,7,8,39] [Am 32 0,Am 33 7,Ai 1 34 32 33,Al 35 34,Am 36 8,Ab .shr 37 35 36,Ae .and 38 37 1,Ae .eql 39 38 1]) (.cond (.t 39) (Aq [0,1,5,6,7,8] [Am 40 5,Am 41 6,Ae .quo 42 41 8,Am 43 5,Am 44 6,Ae .quo 45 44 8,Ai 1 46 43 45,Al 47 46,Am 48 6,Ae .rem 49 48 8,Ao 50 (.bin .shl (.c (.v false (.int .u8 1))) (.t 49)),Ab .or 51 47 50,Ai 1 52 40 42,As 1 52 51]) .skip)) (Ar [0,1,5,6,7,8] [Am 53 6,Ae .add 54 53 1,Am 6 54])))) (Ar [0,1,5,6,7,8] [Am 24 8,Ae .add 25 24 1,Am 8 25]))
def pl574_1 : PC :=
.seq (.seq (Ar [0,1,5,6,7,18] [Am 15 7,Am 16 0,Az 17 16,Ab .lss 18 15 17]) (Aj 18 0)) (.seq (.blk 1 (.seq (Ar [0,1,5,6,7,8] [Ak 8 0]) (.blk 2 (.loop pl574_0)))) (Ar [0,1,5,6,7] [Am 19 7,Ae .add 20 19 1,Am 7 20]))
def pb574 : PC :=
.seq (Ar [0,1] [Ao 4 (.mv (.c (.nl 1)))]) (.seq (An1 [0,1,5] 9 5 [Ao 9 (.bsl 1 [] 0 []),Am 5 9]) (.seq (.seq (Ar [0,1,5,13] [Am 10 0,Am 11 1,Ac2 592 12 10 11,At 13 12]) (.cond (.t 13) (.seq (Ar [4,5] [Am 14 5,Am 4 14]) .ret) .skip)) (.seq (Ar [0,1,5,6] [Ak 6 0]) (.seq (.seq (Ar [0,1,5,6,7] [Ak 7 0]) (.blk 0 (.loop pl574_1))) (.seq (Ar [4,5] [Am 55 5,Am 4 55]) .ret)))))
def pf574 : PF:=⟨[.s 4],[],pb574⟩

def pl575_0 : PC :=
.seq (.seq (Ar [0,3,4,5,16] [Am 13 5,Am 14 0,Az 15 14,Ab .lss 16 13 15]) (Aj 16 0)) (.seq (.blk 1 (An1 [0,3,4,5] 28 3 [Am 19 3,Am 20 0,Am 21 5,Ai 3 22 20 21,Af 23 22 1,Al 24 23,Am 25 4,Ab .sub 26 24 25,Ao 27 (.bsl 1 [A2] 1 [(0,(.t 26))]),Ao 28 (.app 1 8 (.t 19) (.t 27)),Am 3 28])) (Ar [0,3,4,5] [Am 17 5,Ae .add 18 17 1,Am 5 18]))
def pb575 : PC :=
.seq (Ar [0] [Ao 2 (.mv (.c (.nl 1)))]) (.seq (An1 [0,3] 6 3 [Ao 6 (.bsl 1 [] 0 []),Am 3 6]) (.seq (.seq (Ar [0,3,9] [Am 7 0,Ac1 518 8 7,Ae .neq 9 8 1]) (.cond (.t 9) (.seq (Ar [2,3] [Am 10 3,Am 2 10]) .ret) .skip)) (.seq (An1 [0,3,4] 12 4 [Am 11 0,Ac1 577 12 11,Am 4 12]) (.seq (.seq (Ar [0,3,4,5] [Ak 5 0]) (.blk 0 (.loop pl575_0))) (.seq (Ar [2,3] [Am 29 3,Am 2 29]) .ret)))))
def pf575 : PF:=⟨[.s 2],[],pb575⟩

def pl576_0 : PC :=
.seq (.seq (Ar [0,3,4,8] [Am 5 4,Am 6 0,Az 7 6,Ab .lss 8 5 7]) (Aj 8 0)) (.seq (.blk 1 (.seq (Ar [0,3,4,17] [Am 11 0,Am 12 4,Ai 1 13 11 12,Al 14 13,Ac1 542 15 14,Am 16 3,Ab .gtr 17 15 16]) (.cond (.t 17) (An1 [0,3,4] 22 3 [Am 18 0,Am 19 4,Ai 1 20 18 19,Al 21 20,Ac1 542 22 21,Am 3 22]) .skip))) (Ar [0,3,4] [Am 9 4,Ae .add 10 9 1,Am 4 10]))
def pb576 : PC :=
.seq (Ar [0] [Ak 2 0]) (.seq (Ar [0,3] [Ak 3 0]) (.seq (.seq (Ar [0,3,4] [Ak 4 0]) (.blk 0 (.loop pl576_0))) (.seq (Ar [2,3] [Am 23 3,Am 2 23]) .ret)))
def pf576 : PF:=⟨[.s 2],[],pb576⟩

def pl577_0 : PC :=
.seq (.seq (Ar [0,3,4,8] [Am 5 4,Am 6 0,Az 7 6,Ab .lss 8 5 7]) (Aj 8 0)) (.seq (.blk 1 (.seq (Ar [0,3,4,21] [Am 11 4,Ae .eql 12 11 0,Am 13 12,Ah 14 (.mv (.t 0)) 13,Ah 15 (.mv (.t 4)) 13,Ah 16 (.iad 3 (.t 14) (.t 15)) 13,Ah 17 (.fad (.t 16) 1) 13,Ah 18 (.ld false 1 (.t 17)) 13,Ah 19 (.mv (.t 3)) 13,Ah 20 (.bin .lss (.t 18) (.t 19)) 13,Ap1 21 13 true 20]) (.cond (.t 21) (Ar [0,3,4] [Am 22 0,Am 23 4,Ai 3 24 22 23,Af 25 24 1,Al 26 25,Am 3 26]) .skip))) (Ar [0,3,4] [Am 9 4,Ae .add 10 9 1,Am 4 10]))
def pb577 : PC :=
.seq (Ar [0] [Ak 2 0]) (.seq (Ar [0,3] [Ak 3 0]) (.seq (.seq (Ar [0,3,4] [Ak 4 0]) (.blk 0 (.loop pl577_0))) (.seq (Ar [2] [Am 27 3,Am 2 27]) .ret)))
def pf577 : PF:=⟨[.s 2],[],pb577⟩

def pl578_0 : PC :=
.seq (.seq (Ar [0,3,4,13] [Am 10 4,Am 11 0,Az 12 11,Ab .lss 13 10 12]) (Aj 13 0)) (.seq (.blk 1 (An1 [0,3,4] 21 3 [Am 16 3,Am 17 0,Am 18 4,Ai 3 19 17 18,AL' 3 20 19,Ac2 569 21 16 20,Am 3 21])) (Ar [0,3,4] [Am 14 4,Ae .add 15 14 1,Am 4 15]))
def pb578 : PC :=
.seq (Ar [0] [Ao 2 (.mv (.c (.nl 1)))]) (.seq (An1 [0,3] 5 3 [Ao 5 (.bsl 1 [] 0 []),Am 3 5]) (.seq (.seq (Ar [0,3,8] [Am 6 0,Ac1 518 7 6,Ae .eql 8 7 0]) (.cond (.t 8) (.seq (Ar [2,3] [Am 9 3,Am 2 9]) .ret) .skip)) (.seq (.seq (Ar [0,3,4] [Ak 4 0]) (.blk 0 (.loop pl578_0))) (.seq (Ar [2,3] [Am 22 3,Am 2 22]) .ret))))
def pf578 : PF:=⟨[.s 2],[],pb578⟩

def pb579 : PC :=
.seq (Ar [0,3] [Ao 3 (.box 3 (.t 1)),Ao 4 (.mv (.c (.nl 1)))]) (.seq (.seq (Ar [0,3,7] [AL' 3 5 3,Ac1 60 6 5,At 7 6]) (.cond (.t 7) (.seq (An1 [4] 9 4 [Am 8 0,Ac1 69 9 8,Am 4 9]) .ret) .skip)) (.seq (.seq (Ar [0,3,12] [Af 10 3 0,Al 11 10,Ae .eql 12 11 1]) (.cond (.t 12) (.seq (An1 [4] 16 4 [Am 13 0,Af 14 3 1,Al 15 14,Ac2 531 16 13 15,Am 4 16]) .ret) .skip)) (.seq (.reg [4] [(27,4)] [Am 17 0,Ac1 69 18 17,Af 19 3 2,Al 20 19,Ao 21 (.lens (.t 20)),Ao 22 (.cvi .u8 (.t 21)),Ao 23 (.bsl 1 [.int .u8 0] 1 [(0,(.t 22))]),Ao 24 (.app 1 1 (.t 18) (.t 23)),Af 25 3 2,Al 26 25,Ao 27 (.apps (.t 24) (.t 26)),Am 4 27] (some [(1,3),(1,4),(1,5),(1,6),(1,9),(5,9),(6,9),(7,9)])) .ret)))
def pf579 : PF:=⟨[.s 4],[],pb579⟩

def pl580_0 : PC :=
.seq (Ar [0,3,7,8,9,10] [Ab .lss 10 9 8]) (.seq (Aj 10 0) (.seq (.blk 1 (.seq (Ar [0,3,4,5,7,8,9] [Am 11 9,Ai 3 12 7 9,AL' 3 13 12,⟨some 5,.alloc [A0,A0,A1],none⟩,Am 4 11,As 3 5 13]) (.seq (Aq [0,3,5,7,8,9,24] [Am 14 4,Ae .gtr 15 14 0,Am 16 15,Ag 17 (.mv (.t 0)) 16,Ag 18 (.mv (.t 4)) 16,Ag 19 (.bin .sub (.t 18) (Av 1)) 16,Ag 20 (.iad 3 (.t 17) (.t 19)) 16,Ag 21 (.ld true 3 (.t 20)) 16,Ag 22 (.ld true 3 (.t 5)) 16,Ag 23 (.eqs false [0,0,2] (.t 21) (.t 22)) 16,Ap2 24 16 23 false]) (.cond (.t 24) (Ar [0,3,7,8,9] [Am 25 3,Am 26 3,Az 27 26,Ae .sub 28 27 1,Ai 4 29 25 28,Af 30 29 3,Al 31 30,Ae .add 32 31 1,Ai 4 33 25 28,Af 34 33 3,As 1 34 32]) (An1 [0,3,7,8,9] 39 3 [Am 35 3,AL' 3 36 5,⟨some 37,.build [A0,A0,A1,A0] [(0,3,(.t 36)),(3,1,(Av 1))],none⟩,⟨some 38,.bsl 4 [A2,A2,A3,A2] 1 [(0,(.t 37))],none⟩,Ao 39 (.app 4 40 (.t 35) (.t 38)),Am 3 39]))))) (Ar [0,3,7,8,9] [Ae .add 40 9 1,Am 9 40])))
def pb580 : PC :=
.seq (Ar [0] [Ao 2 (.mv (.c (.nl 4)))]) (.seq (An1 [0,3] 6 3 [Ao 6 (.bsl 4 [] 0 []),Am 3 6]) (.seq (.seq (Ar [0,3,7,8,9] [Am 7 0,Az 8 7,Ak 9 0]) (.blk 0 (.loop pl580_0))) (.seq (Ar [2,3] [Am 41 3,Am 2 41]) .ret)))
def pf580 : PF:=⟨[.s 2],[],pb580⟩

def pb581 : PC :=
.seq (Ar [0,1] [Ak 4 0]) (.seq (.seq (Ar [0,1,12] [Am 5 0,Ao 6 (.call 87 [] [(.t 5),(Av 0),(Av 64)]),At 7 6,Am 8 7,Ah 9 (.mv (.t 1)) 8,Ah 10 (.call 87 [] [(.t 9),(Av 0),(Av 31)]) 8,Ah 11 (.un .not (.t 10)) 8,Ap1 12 8 true 11]) (.cond (.t 12) (.seq (Ar [4] [Ak 4 0]) .ret) .skip)) (.seq (Ar [4] [Am 13 0,Am 14 1,Ab .mul 15 13 14,Ae .add 16 15 7,Ae .quo 17 16 8,Am 4 17]) .ret))
def pf581 : PF:=⟨[.s 4],[],pb581⟩

def pb582 : PC :=
.seq (Ar [0,1] [Ak 4 0]) (.seq (.seq (Ar [0,1,13] [Am 5 1,Ae .lss 6 5 0,Am 7 6,Ah 8 (.mv (.t 1)) 7,Ah 9 (.bin .quo (.t 8) (Av 8)) 7,Ah 10 (.mv (.t 0)) 7,Ah 11 (.len (.t 10)) 7,Ah 12 (.bin .geq (.t 9) (.t 11)) 7,Ap1 13 7 true 12]) (.cond (.t 13) (.seq (Ar [4] [Ak 4 0]) .ret) .skip)) (.seq (An1 [4] 23 4 [Am 14 0,Am 15 1,Ae .quo 16 15 8,Ai 1 17 14 16,Al 18 17,Am 19 1,Ae .rem 20 19 8,Ab .shr 21 18 20,Ao 22 (.bin .and (.t 21) (.c (.v false (.int .u8 1)))),Ao 23 (.cvi .i64 (.t 22)),Am 4 23]) .ret))
def pf582 : PF:=⟨[.s 4],[],pb582⟩

def pb583 : PC :=
.seq (Ar [0] [Ak 2 0]) (.seq (.cond (Aw false) (.seq (An1 [2] 5 2 [Am 3 0,Ao 4 (.cvi .u32 (.t 3)),Ac1 593 5 4,Am 2 5]) .ret) .skip) (.seq (An1 [2] 7 2 [Am 6 0,Ac1 594 7 6,Am 2 7]) .ret))
def pf583 : PF:=⟨[.s 2],[],pb583⟩

def pb584 : PC :=
.seq (Ar [0] [Ao 2 (.mv (.c (.nl 3)))]) (.seq (An1 [3] 5 3 [Am 4 0,Ac1 76 5 4,Am 3 5]) (.seq (Ar [3] [Am 6 3,Ao 7 (.call 595 [0] [(.t 6),(.c (.v false (.fn 596 [])))])]) (.seq (An1 [2] 9 2 [Am 8 3,Ao 9 (.callm 597 0 [(.t 8)]),Am 2 9]) .ret)))
def pf584 : PF:=⟨[.s 2],[],pb584⟩

def pl585_0 : PC :=
.seq (Ar [0,6,11,12,13,14] [Ab .lss 14 13 12]) (.seq (Aj 14 0) (.seq (.blk 1 (.seq (Ar [0,6,8,11,12,13] [Ai 3 15 11 13,AL' 3 16 15,⟨some 8,.alloc [A0,A0,A1],none⟩,As 3 8 16]) (.seq (An1 [0,6,9,11,12,13] 19 9 [Am 17 0,AL' 3 18 8,Ac2 598 19 17 18,Am 9 19]) (.seq (.seq (Ar [0,6,9,11,12,13,21] [Am 20 9,Ae .lss 21 20 0]) (.cond (.t 21) (.seq (Ar [4,5] [Ao 4 (.mv (.c (.nl 1))),Ao 5 (.mv (Aw false))]) .ret) .skip)) (An1 [0,6,11,12,13] 25 6 [Am 22 6,Am 23 9,Ao 24 (.bsl 1 [A2] 1 [(0,(.t 23))]),Ao 25 (.app 1 8 (.t 22) (.t 24)),Am 6 25]))))) (Ar [0,6,11,12,13] [Ae .add 26 13 1,Am 13 26])))
def pb585 : PC :=
.seq (Ar [0,1] [Ao 4 (.mv (.c (.nl 1))),Ao 5 (.mv (Aw false))]) (.seq (An1 [0,1,6] 10 6 [Ao 10 (.bsl 1 [] 0 []),Am 6 10]) (.seq (.seq (Ar [0,6,11,12,13] [Am 11 1,Az 12 11,Ak 13 0]) (.blk 0 (.loop pl585_0))) (.seq (Ar [4,5,6] [Am 27 6,Am 4 27,Ao 5 (.mv (Aw true))]) .ret)))
def pf585 : PF:=⟨[.s 4,.s 5],[],pb585⟩

def pl586_0 : PC :=
.seq (.seq (Ar [1,7,8,9,10,38,39,40,47] [Am 45 10,Am 46 1,Ab .lss 47 45 46]) (Aj 47 4)) (.seq (.blk 5 (.seq (Ar [1,7,8,9,10,11,38,39,40] [Am 50 8,Am 51 1,Ab .mul 52 50 51,Am 53 10,Ab .add 54 52 53,Am 11 54]) (.reg [1,7,8,9,10,38,39,40] [] [Am 55 7,Am 56 11,Ae .quo 57 56 8,Ai 1 58 55 57,Al 59 58,Am 60 9,Am 61 10,Ab .shr 62 60 61,Ae .and 63 62 1,Am 64 11,Ae .rem 65 64 8,Ab .shl 66 63 65,Ao 67 (.cvi .u8 (.t 66)),Ab .or 68 59 67,Ai 1 69 55 57,As 1 69 68] (some [(3,12),(4,12)])))) (Ar [1,7,8,9,10,38,39,40] [Am 48 10,Ae .add 49 48 1,Am 10 49]))
def pl586_1 : PC :=
.seq (Ar [1,7,38,39,40,41] [Ab .lss 41 40 39]) (.seq (Aj 41 2) (.seq (.blk 3 (.seq (Ar [1,7,8,9,38,39,40] [Am 42 40,Ai 1 43 38 40,Al 44 43,Am 8 42,Am 9 44]) (.seq (Ar [1,7,8,9,10,38,39,40] [Ak 10 0]) (.blk 4 (.loop pl586_0))))) (Ar [1,7,38,39,40] [Ae .add 70 40 1,Am 40 70])))
def pl586_2 : PC :=
.seq (Ar [0,1,15,16,17,18] [Ab .lss 18 17 16]) (.seq (Aj 18 0) (.seq (.blk 1 (.seq (Ar [0,1,6,15,16,17] [Ai 1 19 15 17,Al 20 19,Am 6 20]) (.seq (Ar [0,1,15,16,17,29] [Am 21 6,Ao 22 (.call 87 [] [(.t 21),(Av 0),(Av 2147483647)]),At 23 22,Am 24 23,Ah 25 (.mv (.t 6)) 24,Ah 26 (.call 555 [] [(.t 25)]) 24,Ah 27 (.mv (.t 1)) 24,Ah 28 (.bin .gtr (.t 26) (.t 27)) 24,Ap1 29 24 true 28]) (.cond (.t 29) (.seq (Ar [4] [Ao 4 (.mv (.c (.nl 1)))]) .ret) .skip)))) (Ar [0,1,15,16,17] [Ae .add 30 17 1,Am 17 30])))
def pb586 : PC :=
.seq (Ar [0,1] [Ao 4 (.mv (.c (.nl 1)))]) (.seq (.seq (Ar [0,1,14] [Am 12 1,Ao 13 (.call 87 [] [(.t 12),(Av 0),(Av 31)]),At 14 13]) (.cond (.t 14) (.seq (Ar [4] [Ao 4 (.mv (.c (.nl 1)))]) .ret) .skip)) (.seq (.seq (Ar [0,1,15,16,17] [Am 15 0,Az 16 15,Ak 17 0]) (.blk 0 (.loop pl586_2))) (.seq (An1 [0,1,7] 37 7 [Am 31 0,Az 32 31,Am 33 1,Ab .mul 34 32 33,Ae .add 35 34 7,Ae .quo 36 35 8,Ao 37 (.mks 1 1 [.int .u8 0] (.t 36)),Am 7 37]) (.seq (.seq (Ar [1,7,38,39,40] [Am 38 0,Az 39 38,Ak 40 0]) (.blk 2 (.loop pl586_1))) (.seq (Ar [4,7] [Am 71 7,Am 4 71]) .ret)))))
def pf586 : PF:=⟨[.s 4],[],pb586⟩

def pl587_0 : PC :=
.seq (Ar [0,3,11,12,13,14] [Ab .lss 14 13 12]) (.seq (Aj 14 0) (.seq (.blk 1 (.seq (Ar [0,3,5,11,12,13] [Ai 3 15 11 13,AL' 3 16 15,⟨some 5,.alloc [A0,A0,A1],none⟩,As 3 5 16]) (.reg [0,3,11,12,13] [(24,3)] [Am 17 3,Af 18 5 1,Al 19 18,Am 20 0,Ac1 589 21 20,Ab .sub 22 19 21,Ao 23 (.bsl 1 [A2] 1 [(0,(.t 22))]),Ao 24 (.app 1 8 (.t 17) (.t 23)),Am 3 24] (some [(2,4)])))) (Ar [0,3,11,12,13] [Ae .add 25 13 1,Am 13 25])))
def pb587 : PC :=
.seq (Ar [0] [Ao 2 (.mv (.c (.nl 1)))]) (.seq (An1 [0,3] 6 3 [Ao 6 (.bsl 1 [] 0 []),Am 3 6]) (.seq (.seq (Ar [0,3,9] [Am 7 0,Ac1 526 8 7,Ae .neq 9 8 1]) (.cond (.t 9) (.seq (Ar [2,3] [Am 10 3,Am 2 10]) .ret) .skip)) (.seq (.seq (Ar [0,3,11,12,13] [Am 11 0,Az 12 11,Ak 13 0]) (.blk 0 (.loop pl587_0))) (.seq (Ar [2,3] [Am 26 3,Am 2 26]) .ret))))
def pf587 : PF:=⟨[.s 2],[],pb587⟩

def pl588_0 : PC :=
.seq (Ar [3,6,7,8,9] [Ab .lss 9 8 7]) (.seq (Aj 9 0) (.seq (.blk 1 (.seq (Ar [3,5,6,7,8] [Ai 1 10 6 8,Al 11 10,Am 5 11]) (Ar [3,6,7,8] [Am 12 3,Am 13 5,Ac1 555 14 13,Ao 15 (.mx (.t 12) (.t 14)),Am 3 15]))) (Ar [3,6,7,8] [Ae .add 16 8 1,Am 8 16])))
def pb588 : PC :=
.seq (Ar [0] [Ak 2 0]) (.seq (Ar [0,3] [Ak 3 0]) (.seq (.seq (Ar [3,6,7,8] [Am 6 0,Az 7 6,Ak 8 0]) (.blk 0 (.loop pl588_0))) (.seq (Ar [2] [Am 17 3,Am 2 17]) .ret)))
def pf588 : PF:=⟨[.s 2],[],pb588⟩

def pl589_0 : PC :=
.seq (Ar [3,13,14,15,16] [Ab .lss 16 15 14]) (.seq (Aj 16 0) (.seq (.blk 1 (.seq (Ar [3,5,13,14,15] [Ai 3 17 13 15,AL' 3 18 17,⟨some 5,.alloc [A0,A0,A1],none⟩,As 3 5 18]) (Ar [3,13,14,15] [Am 19 3,Af 20 5 1,Al 21 20,Ao 22 (.mn (.t 19) (.t 21)),Am 3 22]))) (Ar [3,13,14,15] [Ae .add 23 15 1,Am 15 23])))
def pb589 : PC :=
.seq (Ar [0] [Ak 2 0]) (.seq (.seq (Ar [0,8] [Am 6 0,Az 7 6,Ae .eql 8 7 0]) (.cond (.t 8) (.seq (Ar [2] [Ak 2 0]) .ret) .skip)) (.seq (Ar [0,3] [Am 9 0,Ao 10 (.iad 3 (.t 9) (Av 0)),Af 11 10 1,Al 12 11,Am 3 12]) (.seq (.seq (Ar [3,13,14,15] [Am 13 0,Az 14 13,Ak 15 0]) (.blk 0 (.loop pl589_0))) (.seq (Ar [2] [Am 24 3,Am 2 24]) .ret))))
def pf589 : PF:=⟨[.s 2],[],pb589⟩

def pb590 : PC :=
.seq (Ar [0] [Ak 2 0]) (.seq (.seq (Ar [0,5] [Am 3 0,Ac1 384 4 3,At 5 4]) (.cond (.t 5) (.seq (Ar [2] [Ak 2 0]) .ret) .skip)) (.seq (.seq (Ar [0,7] [Am 6 0,Ae .lss 7 6 0]) (.cond (.t 7) (.seq (Ar [2] [Am 8 0,Ao 9 (.bin .mul (Av (-2)) (.t 8)),Ae .sub 10 9 1,Am 2 10]) .ret) .skip)) (.seq (Ar [2] [Am 11 0,Ao 12 (.bin .mul (Av 2) (.t 11)),Am 2 12]) .ret)))
def pf590 : PF:=⟨[.s 2],[],pb590⟩

def pl591_0 : PC :=
.seq (.seq (Ar [0,3,5,9] [Am 6 5,Am 7 0,Az 8 7,Ab .lss 9 6 8]) (Aj 9 0)) (.seq (.blk 1 (.seq (Aq [0,3,5,17] [Am 12 0,Am 13 5,Ai 3 14 12 13,AL' 3 15 14,AL' 3 16 3,Ao 17 (.eqs false [0,0,2] (.t 15) (.t 16))]) (.cond (.t 17) (.seq (Ar [4] [Am 18 5,Am 4 18]) .ret) .skip))) (Ar [0,3,5] [Am 10 5,Ae .add 11 10 1,Am 5 11]))
def pb591 : PC :=
.seq (Ar [0,3] [Ao 3 (.box 3 (.t 1)),Ak 4 0]) (.seq (.seq (Ar [0,3,5] [Ak 5 0]) (.blk 0 (.loop pl591_0))) (.seq (Ar [4] [Ak 4 (-1)]) .ret))
def pf591 : PF:=⟨[.s 4],[],pb591⟩

def pl592_0 : PC :=
.seq (.seq (Ar [0,1,5,9] [Am 6 5,Am 7 0,Az 8 7,Ab .lss 9 6 8]) (Aj 9 0)) (.seq (.blk 1 (.seq (Ar [0,1,5,26] [Am 12 0,Am 13 5,Ai 1 14 12 13,Al 15 14,Ao 16 (.call 377 [] [(.t 15),(Av 0),(Av 2147483647)]),At 17 16,Am 18 17,Ah 19 (.mv (.t 0)) 18,Ah 20 (.mv (.t 5)) 18,Ah 21 (.iad 1 (.t 19) (.t 20)) 18,Ah 22 (.ld false 1 (.t 21)) 18,Ah 23 (.call 542 [] [(.t 22)]) 18,Ah 24 (.mv (.t 1)) 18,Ah 25 (.bin .gtr (.t 23) (.t 24)) 18,Ap1 26 18 true 25]) (.cond (.t 26) (.seq (Ar [4] [Ao 4 (.mv (Aw false))]) .ret) .skip))) (Ar [0,1,5] [Am 10 5,Ae .add 11 10 1,Am 5 11]))
def pb592 : PC :=
.seq (Ar [0,1] [Ao 4 (.mv (Aw false))]) (.seq (.seq (Ar [0,1,5] [Ak 5 0]) (.blk 0 (.loop pl592_0))) (.seq (An1 [4] 28 4 [Am 27 1,Ao 28 (.call 377 [] [(.t 27),(Av 0),(Av 31)]),Am 4 28]) .ret))
def pf592 : PF:=⟨[.s 4],[],pb592⟩

def pb593 : PC :=
.seq (Ar [0,2] [Ak 2 0]) (.seq (.seq (Ar [0,2,4] [Am 3 0,Ao 4 (.bin .geq (.t 3) (.c (.v false (.int .u32 65536))))]) (.cond (.t 4) (.seq (Ar [0] [Am 5 0,Ao 6 (.bin .shr (.t 5) (.c (.v false (.int .u64 16)))),Am 0 6]) (Ar [0,2] [Ak 2 16])) .skip)) (.seq (.seq (Ar [0,2,8] [Am 7 0,Ao 8 (.bin .geq (.t 7) (.c (.v false (.int .u32 256))))]) (.cond (.t 8) (.seq (Ar [0,2] [Am 9 0,Ao 10 (.bin .shr (.t 9) (.c (.v false (.int .u64 8)))),Am 0 10]) (Ar [0,2] [Am 11 2,Ae .add 12 11 8,Am 2 12])) .skip)) (.seq (Ar [2] [Am 13 2,Am 14 0,Ao 15 (.cvi .u8 (.t 14)),⟨some 16,.idx (.c (.v false (.str ⟨#[0,1,2,2,3,3,3,3,4,4,4,4,4,4,4,4,5,5,5,5,5,5,5,5,5,5,5,5,5,5,5,5,6,6,6,6,6,6,6,6,6,6,6,6,6,6,6,6,6,6,6,6,6,6,6,6,6,6,6,6,6,6,6,6,7,7,7,7,7,7,7,7,7,7,7,7,7,7,7,7,7,7,7,7,7,7,7,7,7,7,7,7,7,7,7,7,7,7,7,7,7,7,7,7,7,7,7,7,7,7,7,7,7,7,7,7,7,7,7,7,7,7,7,7,7,7,7,7,8,8,8,8,8,8,8,8,8,8,8,8,8,8,8,8,8,8,8,8,8,8,8,8,8,8,8,8,8,8,8,8,8,8,8,8,8,8,8,8,8,8,8,8,8,8,8,8,8,8,8,8,8,8,8,8,8,8,8,8,8,8,8,8,8,8,8,8,8,8,8,8,8,8,8,8,8,8,8,8,8,8,8,8,8,8,8,8,8,8,8,8,8,8,8,8,8,8,8,8,8,8,8,8,8,8,8,8,8,8,8,8,8,8,8,8,8,8,8,8,8,8,8,8,8,8,8,8]⟩))) (.t 15),none⟩,Ao 17 (.cvi .i64 (.t 16)),Ab .add 18 13 17,Am 2 18]) .ret)))
def pf593 : PF:=⟨[.s 2],[],pb593⟩

def pb594 : PC :=
.seq (Ar [0,2] [Ak 2 0]) (.seq (.seq (Ar [0,2,4] [Am 3 0,Ao 4 (.bin .geq (.t 3) (.c (.v false (.int .u64 4294967296))))]) (.cond (.t 4) (.seq (Ar [0] [Am 5 0,Ao 6 (.bin .shr (.t 5) (.c (.v false (.int .u64 32)))),Am 0 6]) (Ar [0,2] [Ak 2 32])) .skip)) (.seq (.seq (Ar [0,2,8] [Am 7 0,Ao 8 (.bin .geq (.t 7) (.c (.v false (.int .u64 65536))))]) (.cond (.t 8) (.seq (Ar [0,2] [Am 9 0,Ao 10 (.bin .shr (.t 9) (.c (.v false (.int .u64 16)))),Am 0 10]) (Ar [0,2] [Am 11 2,Ae .add 12 11 16,Am 2 12])) .skip)) (.seq (.seq (Ar [0,2,14] [Am 13 0,Ao 14 (.bin .geq (.t 13) (.c (.v false (.int .u64 256))))]) (.cond (.t 14) (.seq (Ar [0,2] [Am 15 0,Ao 16 (.bin .shr (.t 15) (.c (.v false (.int .u64 8)))),Am 0 16]) (Ar [0,2] [Am 17 2,Ae .add 18 17 8,Am 2 18])) .skip)) (.seq (Ar [2] [Am 19 2,Am 20 0,Ao 21 (.cvi .u8 (.t 20)),⟨some 22,.idx (.c (.v false (.str ⟨#[0,1,2,2,3,3,3,3,4,4,4,4,4,4,4,4,5,5,5,5,5,5,5,5,5,5,5,5,5,5,5,5,6,6,6,6,6,6,6,6,6,6,6,6,6,6,6,6,6,6,6,6,6,6,6,6,6,6,6,6,6,6,6,6,7,7,7,7,7,7,7,7,7,7,7,7,7,7,7,7,7,7,7,7,7,7,7,7,7,7,7,7,7,7,7,7,7,7,7,7,7,7,7,7,7,7,7,7,7,7,7,7,7,7,7,7,7,7,7,7,7,7,7,7,7,7,7,7,8,8,8,8,8,8,8,8,8,8,8,8,8,8,8,8,8,8,8,8,8,8,8,8,8,8,8,8,8,8,8,8,8,8,8,8,8,8,8,8,8,8,8,8,8,8,8,8,8,8,8,8,8,8,8,8,8,8,8,8,8,8,8,8,8,8,8,8,8,8,8,8,8,8,8,8,8,8,8,8,8,8,8,8,8,8,8,8,8,8,8,8,8,8,8,8,8,8,8,8,8,8,8,8,8,8,8,8,8,8,8,8,8,8,8,8,8,8,8,8,8,8,8,8,8,8,8,8]⟩))) (.t 21),none⟩,Ao 23 (.cvi .i64 (.t 22)),Ab .add 24 19 23,Am 2 24]) .ret))))
def pf594 : PF:=⟨[.s 2],[],pb594⟩

def pb595 : PC:=.ext sortCalls sortF
def pf595 : PF:=⟨[],[0],pb595⟩

def pb596 : PC :=
.seq (Ar [2,3] [Ao 2 (.box 3 (.t 0)),Ao 3 (.box 3 (.t 1)),Ak 4 0]) (.seq (.seq (Ar [2,3,7] [AL' 3 5 2,AL' 3 6 3,Ac2 508 7 5 6]) (.cond (.t 7) (.seq (Ar [4] [Ak 4 (-1)]) .ret) .skip)) (.seq (.seq (Ar [10] [AL' 3 8 3,AL' 3 9 2,Ac2 508 10 8 9]) (.cond (.t 10) (.seq (Ar [4] [Ak 4 1]) .ret) .skip)) (.seq (Ar [4] [Ak 4 0]) .ret)))
def pf596 : PF:=⟨[.s 4],[],pb596⟩

def pl597_0 : PC :=
.seq (.seq (Ar [0,3,4,5,32] [Am 29 5,Am 30 4,Az 31 30,Ab .lss 32 29 31]) (Aj 32 2)) (.seq (.blk 3 (.seq (Aq [0,3,4,5,44] [Am 35 4,Am 36 5,Ai 3 37 35 36,AL' 3 38 37,Am 39 4,Am 40 5,Ae .sub 41 40 1,Ai 3 42 39 41,AL' 3 43 42,Ao 44 (.eqs true [0,0,2] (.t 38) (.t 43))]) (.cond (.t 44) (.seq (Ar [0,3,4,5] [Am 45 0,Am 46 3,Am 47 4,Am 48 5,Ai 3 49 47 48,AL' 3 50 49,Ai 3 51 45 46,As 3 51 50]) (Ar [0,3,4,5] [Am 52 3,Ae .add 53 52 1,Am 3 53])) .skip))) (Ar [0,3,4,5] [Am 33 5,Ae .add 34 33 1,Am 5 34]))
def pl597_1 : PC :=
.seq (.seq (Ar [0,3,13] [Am 10 3,Am 11 0,Az 12 11,Ab .lss 13 10 12]) (Aj 13 0)) (.seq (.blk 1 (.seq (Aq [0,3,25] [Am 16 0,Am 17 3,Ai 3 18 16 17,AL' 3 19 18,Am 20 0,Am 21 3,Ae .sub 22 21 1,Ai 3 23 20 22,AL' 3 24 23,Ao 25 (.eqs false [0,0,2] (.t 19) (.t 24))]) (.cond (.t 25) (.seq (Ar [0,3,4] [Am 26 0,Am 27 3,Ao 28 (.slc 3 (.t 26) (some (.t 27)) none),Am 4 28]) (.seq (.seq (Ar [0,3,4,5] [Ak 5 1]) (.blk 2 (.loop pl597_0))) (.seq (Ar [0,3] [Am 54 0,Am 55 3,Ao 56 (.slc 3 (.t 54) (some (.t 55)) none),⟨none,.clr 3 [A2,A2,A3] (.t 56),none⟩]) (.seq (Ar [0,2] [Am 57 0,Am 58 3,Ao 59 (.slc 3 (.t 57) none (some (.t 58))),Am 2 59]) .ret)))) .skip))) (Ar [0,3] [Am 14 3,Ae .add 15 14 1,Am 3 15]))
def pb597 : PC :=
.seq (Ar [0] [Ao 2 (.mv (.c (.nl 3)))]) (.seq (.seq (Ar [0,8] [Am 6 0,Az 7 6,Ae .lss 8 7 2]) (.cond (.t 8) (.seq (Ar [0,2] [Am 9 0,Am 2 9]) .ret) .skip)) (.seq (.seq (Ar [0,3] [Ak 3 1]) (.blk 0 (.loop pl597_1))) (.seq (Ar [0,2] [Am 60 0,Am 2 60]) .ret)))
def pf597 : PF:=⟨[.s 2],[0],pb597⟩

def pb598 : PC :=
.seq (Ar [0,3] [Ao 3 (.box 3 (.t 1)),Ak 4 0]) (.seq (An1 [4] 7 4 [Am 5 0,AL' 3 6 3,Ac2 600 7 5 6,Am 4 7]) .ret)
def pf598 : PF:=⟨[.s 4],[],pb598⟩

def pl600_0 : PC :=
.seq (Ar [0,3,7,8,9] [Ab .lss 9 8 7]) (.seq (Aj 9 0) (.seq (.blk 1 (.seq (Ar [0,3,5,7,8] [Am 10 8,Am 5 10]) (.seq (Aq [0,3,5,7,8,16] [AL' 3 11 3,Am 12 0,Am 13 5,Ai 3 14 12 13,AL' 3 15 14,Ao 16 (.eqs false [0,0,2] (.t 11) (.t 15))]) (.cond (.t 16) (.seq (Ar [4] [Am 17 5,Am 4 17]) .ret) .skip)))) (Ar [0,3,7,8] [Ae .add 18 8 1,Am 8 18])))
def pb600 : PC :=
.seq (Ar [0,3] [Ao 3 (.box 3 (.t 1)),Ak 4 0]) (.seq (.seq (Ar [0,3,7,8] [Am 6 0,Az 7 6,Ak 8 0]) (.blk 0 (.loop pl600_0))) (.seq (Ar [4] [Ak 4 (-1)]) .ret))
def pf600 : PF:=⟨[.s 4],[],pb600⟩

end Go.Proofs.YtmlinnkaccgcgaaGreat.OM
