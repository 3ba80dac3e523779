/- The texts of the functions, as the own machine runs them. -/
import Derived.Test.YtnadnanmgakkfaaOMDef
set_option linter.all false
namespace Go.Proofs.Ytnadnanmgakkfaa.OM
set_option maxRecDepth 100000

-- loop.example/g00496/laws.markTaskS
def pl195_0 : PC :=
.seq (.seq (.reg [0, 1, 5, 9] [] [
         ⟨some 6, .mv (.t 5), none⟩,
         ⟨some 7, .mv (.t 0), none⟩,
         ⟨some 8, .len (.t 7), none⟩,
         ⟨some 9, .bin .lss (.t 6) (.t 8), none⟩] none)
       (.cond (.t 9) (.skip)
        (.exit 0)))
      (.seq (.blk 1 (.seq (.reg [0, 1, 5] [] [
           ⟨some 12, .mv (.t 0), none⟩,
           ⟨some 13, .mv (.t 5), none⟩,
           ⟨some 14, .mv (.t 1), none⟩,
           ⟨some 15, .iad 25 (.t 12) (.t 13), none⟩,
           ⟨some 16, .fad (.t 15) 0, none⟩,
           ⟨none, .st 1 (.t 16) (.t 14), none⟩] none)
         (.seq (.reg [0, 1, 5] [] [
            ⟨some 17, .mv (.t 1), none⟩,
            ⟨some 18, .bin .add (.t 17) (.c (.v false (.int .i64 1))), none⟩,
            ⟨some 1, .mv (.t 18), none⟩] none)
          (.seq (.reg [0, 1, 5] [] [
             ⟨some 19, .mv (.t 0), none⟩,
             ⟨some 20, .mv (.t 5), none⟩,
             ⟨some 21, .mv (.t 1), none⟩,
             ⟨some 22, .iad 25 (.t 19) (.t 20), none⟩,
             ⟨some 23, .fad (.t 22) 1, none⟩,
             ⟨none, .st 1 (.t 23) (.t 21), none⟩] none)
           (.seq (.reg [0, 1, 5] [] [
              ⟨some 24, .mv (.t 1), none⟩,
              ⟨some 25, .bin .add (.t 24) (.c (.v false (.int .i64 1))), none⟩,
              ⟨some 1, .mv (.t 25), none⟩] none)
            (.seq (.reg [0, 1, 5] [] [
               ⟨some 26, .mv (.t 0), none⟩,
               ⟨some 27, .mv (.t 5), none⟩,
               ⟨some 28, .mv (.t 1), none⟩,
               ⟨some 29, .iad 25 (.t 26) (.t 27), none⟩,
               ⟨some 30, .fad (.t 29) 2, none⟩,
               ⟨none, .st 1 (.t 30) (.t 28), none⟩] none)
             (.seq (.reg [0, 1, 5] [] [
                ⟨some 31, .mv (.t 1), none⟩,
                ⟨some 32, .bin .add (.t 31) (.c (.v false (.int .i64 1))), none⟩,
                ⟨some 1, .mv (.t 32), none⟩] none)
              (.seq (.reg [0, 1, 5] [(39, 1)] [
                 ⟨some 33, .mv (.t 0), none⟩,
                 ⟨some 34, .mv (.t 5), none⟩,
                 ⟨some 35, .iad 25 (.t 33) (.t 34), none⟩,
                 ⟨some 36, .fad (.t 35) 3, none⟩,
                 ⟨some 37, .ld false 1 (.t 36), none⟩,
                 ⟨some 38, .mv (.t 1), none⟩,
                 ⟨some 39, .call 197 [0] [(.t 37), (.t 38)], none⟩,
                 ⟨some 1, .mv (.t 39), none⟩] none)
               (.seq (.reg [0, 1, 5] [] [
                  ⟨some 40, .mv (.t 0), none⟩,
                  ⟨some 41, .mv (.t 5), none⟩,
                  ⟨some 42, .mv (.t 1), none⟩,
                  ⟨some 43, .iad 25 (.t 40) (.t 41), none⟩,
                  ⟨some 44, .fad (.t 43) 4, none⟩,
                  ⟨none, .st 1 (.t 44) (.t 42), none⟩] none)
                (.seq (.reg [0, 1, 5] [] [
                   ⟨some 45, .mv (.t 1), none⟩,
                   ⟨some 46, .bin .add (.t 45) (.c (.v false (.int .i64 1))), none⟩,
                   ⟨some 1, .mv (.t 46), none⟩] none)
                 (.seq (.reg [0, 1, 5] [] [
                    ⟨some 47, .mv (.t 0), none⟩,
                    ⟨some 48, .mv (.t 5), none⟩,
                    ⟨some 49, .mv (.t 1), none⟩,
                    ⟨some 50, .iad 25 (.t 47) (.t 48), none⟩,
                    ⟨some 51, .fad (.t 50) 5, none⟩,
                    ⟨some 52, .fad (.t 51) 0, none⟩,
                    ⟨none, .st 1 (.t 52) (.t 49), none⟩] none)
                  (.seq (.reg [0, 1, 5] [] [
                     ⟨some 53, .mv (.t 1), none⟩,
                     ⟨some 54, .bin .add (.t 53) (.c (.v false (.int .i64 1))), none⟩,
                     ⟨some 1, .mv (.t 54), none⟩] none)
                   (.seq (.reg [0, 1, 5] [] [
                      ⟨some 55, .mv (.t 0), none⟩,
                      ⟨some 56, .mv (.t 5), none⟩,
                      ⟨some 57, .mv (.t 1), none⟩,
                      ⟨some 58, .iad 25 (.t 55) (.t 56), none⟩,
                      ⟨some 59, .fad (.t 58) 5, none⟩,
                      ⟨some 60, .fad (.t 59) 1, none⟩,
                      ⟨some 61, .fad (.t 60) 0, none⟩,
                      ⟨none, .st 1 (.t 61) (.t 57), none⟩] none)
                    (.seq (.reg [0, 1, 5] [] [
                       ⟨some 62, .mv (.t 1), none⟩,
                       ⟨some 63, .bin .add (.t 62) (.c (.v false (.int .i64 1))), none⟩,
                       ⟨some 1, .mv (.t 63), none⟩] none)
                     (.seq (.reg [0, 1, 5] [] [
                        ⟨some 64, .mv (.t 0), none⟩,
                        ⟨some 65, .mv (.t 5), none⟩,
                        ⟨some 66, .mv (.t 1), none⟩,
                        ⟨some 67, .iad 25 (.t 64) (.t 65), none⟩,
                        ⟨some 68, .fad (.t 67) 5, none⟩,
                        ⟨some 69, .fad (.t 68) 1, none⟩,
                        ⟨some 70, .fad (.t 69) 1, none⟩,
                        ⟨none, .st 1 (.t 70) (.t 66), none⟩] none)
                      (.seq (.reg [0, 1, 5] [] [
                         ⟨some 71, .mv (.t 1), none⟩,
                         ⟨some 72, .bin .add (.t 71) (.c (.v false (.int .i64 1))), none⟩,
                         ⟨some 1, .mv (.t 72), none⟩] none)
                       (.seq (.reg [0, 1, 5] [] [
                          ⟨some 73, .mv (.t 0), none⟩,
                          ⟨some 74, .mv (.t 5), none⟩,
                          ⟨some 75, .mv (.t 1), none⟩,
                          ⟨some 76, .iad 25 (.t 73) (.t 74), none⟩,
                          ⟨some 77, .fad (.t 76) 5, none⟩,
                          ⟨some 78, .fad (.t 77) 1, none⟩,
                          ⟨some 79, .fad (.t 78) 2, none⟩,
                          ⟨none, .st 1 (.t 79) (.t 75), none⟩] none)
                        (.seq (.reg [0, 1, 5] [] [
                           ⟨some 80, .mv (.t 1), none⟩,
                           ⟨some 81, .bin .add (.t 80) (.c (.v false (.int .i64 1))), none⟩,
                           ⟨some 1, .mv (.t 81), none⟩] none)
                         (.seq (.reg [0, 1, 5] [] [
                            ⟨some 82, .mv (.t 0), none⟩,
                            ⟨some 83, .mv (.t 5), none⟩,
                            ⟨some 84, .mv (.t 1), none⟩,
                            ⟨some 85, .iad 25 (.t 82) (.t 83), none⟩,
                            ⟨some 86, .fad (.t 85) 5, none⟩,
                            ⟨some 87, .fad (.t 86) 1, none⟩,
                            ⟨some 88, .fad (.t 87) 3, none⟩,
                            ⟨some 89, .fad (.t 88) 0, none⟩,
                            ⟨none, .st 1 (.t 89) (.t 84), none⟩] none)
                          (.seq (.reg [0, 1, 5] [] [
                             ⟨some 90, .mv (.t 1), none⟩,
                             ⟨some 91, .bin .add (.t 90) (.c (.v false (.int .i64 1))), none⟩,
                             ⟨some 1, .mv (.t 91), none⟩] none)
                           (.seq (.reg [0, 1, 5] [] [
                              ⟨some 92, .mv (.t 0), none⟩,
                              ⟨some 93, .mv (.t 5), none⟩,
                              ⟨some 94, .mv (.t 1), none⟩,
                              ⟨some 95, .iad 25 (.t 92) (.t 93), none⟩,
                              ⟨some 96, .fad (.t 95) 5, none⟩,
                              ⟨some 97, .fad (.t 96) 1, none⟩,
                              ⟨some 98, .fad (.t 97) 3, none⟩,
                              ⟨some 99, .fad (.t 98) 1, none⟩,
                              ⟨none, .st 1 (.t 99) (.t 94), none⟩] none)
                            (.seq (.reg [0, 1, 5] [] [
                               ⟨some 100, .mv (.t 1), none⟩,
                               ⟨some 101, .bin .add (.t 100) (.c (.v false (.int .i64 1))), none⟩,
                               ⟨some 1, .mv (.t 101), none⟩] none)
                             (.seq (.reg [0, 1, 5] [] [
                                ⟨some 102, .mv (.t 0), none⟩,
                                ⟨some 103, .mv (.t 5), none⟩,
                                ⟨some 104, .mv (.t 1), none⟩,
                                ⟨some 105, .call 196 [] [(.t 104)], none⟩,
                                ⟨some 106, .iad 25 (.t 102) (.t 103), none⟩,
                                ⟨some 107, .fad (.t 106) 5, none⟩,
                                ⟨some 108, .fad (.t 107) 1, none⟩,
                                ⟨some 109, .fad (.t 108) 3, none⟩,
                                ⟨some 110, .fad (.t 109) 2, none⟩,
                                ⟨none, .st 1 (.t 110) (.t 105), none⟩] none)
                              (.seq (.reg [0, 1, 5] [] [
                                 ⟨some 111, .mv (.t 1), none⟩,
                                 ⟨some 112, .bin .add (.t 111) (.c (.v false (.int .i64 1))), none⟩,
                                 ⟨some 1, .mv (.t 112), none⟩] none)
                               (.seq (.reg [0, 1, 5] [(121, 1)] [
                                  ⟨some 113, .mv (.t 0), none⟩,
                                  ⟨some 114, .mv (.t 5), none⟩,
                                  ⟨some 115, .iad 25 (.t 113) (.t 114), none⟩,
                                  ⟨some 116, .fad (.t 115) 5, none⟩,
                                  ⟨some 117, .fad (.t 116) 1, none⟩,
                                  ⟨some 118, .fad (.t 117) 6, none⟩,
                                  ⟨some 119, .ld false 1 (.t 118), none⟩,
                                  ⟨some 120, .mv (.t 1), none⟩,
                                  ⟨some 121, .call 191 [0] [(.t 119), (.t 120)], none⟩,
                                  ⟨some 1, .mv (.t 121), none⟩] none)
                                (.seq (.reg [0, 1, 5] [] [
                                   ⟨some 122, .mv (.t 0), none⟩,
                                   ⟨some 123, .mv (.t 5), none⟩,
                                   ⟨some 124, .mv (.t 1), none⟩,
                                   ⟨some 125, .iad 25 (.t 122) (.t 123), none⟩,
                                   ⟨some 126, .fad (.t 125) 5, none⟩,
                                   ⟨some 127, .fad (.t 126) 8, none⟩,
                                   ⟨none, .st 1 (.t 127) (.t 124), none⟩] none)
                                 (.seq (.reg [0, 1, 5] [] [
                                    ⟨some 128, .mv (.t 1), none⟩,
                                    ⟨some 129, .bin .add (.t 128) (.c (.v false (.int .i64 1))), none⟩,
                                    ⟨some 1, .mv (.t 129), none⟩] none)
                                  (.seq (.reg [0, 1, 5] [(137, 1)] [
                                     ⟨some 130, .mv (.t 0), none⟩,
                                     ⟨some 131, .mv (.t 5), none⟩,
                                     ⟨some 132, .iad 25 (.t 130) (.t 131), none⟩,
                                     ⟨some 133, .fad (.t 132) 5, none⟩,
                                     ⟨some 134, .fad (.t 133) 9, none⟩,
                                     ⟨some 135, .ld false 1 (.t 134), none⟩,
                                     ⟨some 136, .mv (.t 1), none⟩,
                                     ⟨some 137, .call 190 [0] [(.t 135), (.t 136)], none⟩,
                                     ⟨some 1, .mv (.t 137), none⟩] none)
                                   (.seq (.reg [0, 1, 5] [] [
                                      ⟨some 138, .mv (.t 0), none⟩,
                                      ⟨some 139, .mv (.t 5), none⟩,
                                      ⟨some 140, .mv (.t 1), none⟩,
                                      ⟨some 141, .iad 25 (.t 138) (.t 139), none⟩,
                                      ⟨some 142, .fad (.t 141) 15, none⟩,
                                      ⟨none, .st 1 (.t 142) (.t 140), none⟩] none)
                                    (.seq (.reg [0, 1, 5] [] [
                                       ⟨some 143, .mv (.t 1), none⟩,
                                       ⟨some 144, .bin .add (.t 143) (.c (.v false (.int .i64 1))), none⟩,
                                       ⟨some 1, .mv (.t 144), none⟩] none)
                                     (.seq (.reg [0, 1, 5] [] [
                                        ⟨some 145, .mv (.t 0), none⟩,
                                        ⟨some 146, .mv (.t 5), none⟩,
                                        ⟨some 147, .mv (.t 1), none⟩,
                                        ⟨some 148, .iad 25 (.t 145) (.t 146), none⟩,
                                        ⟨some 149, .fad (.t 148) 16, none⟩,
                                        ⟨none, .st 1 (.t 149) (.t 147), none⟩] none)
                                      (.seq (.reg [0, 1, 5] [] [
                                         ⟨some 150, .mv (.t 1), none⟩,
                                         ⟨some 151, .bin .add (.t 150) (.c (.v false (.int .i64 1))), none⟩,
                                         ⟨some 1, .mv (.t 151), none⟩] none)
                                       (.seq (.reg [0, 1, 5] [(158, 1)] [
                                          ⟨some 152, .mv (.t 0), none⟩,
                                          ⟨some 153, .mv (.t 5), none⟩,
                                          ⟨some 154, .iad 25 (.t 152) (.t 153), none⟩,
                                          ⟨some 155, .fad (.t 154) 17, none⟩,
                                          ⟨some 156, .ld false 1 (.t 155), none⟩,
                                          ⟨some 157, .mv (.t 1), none⟩,
                                          ⟨some 158, .call 192 [0] [(.t 156), (.t 157)], none⟩,
                                          ⟨some 1, .mv (.t 158), none⟩] none)
                                        (.seq (.reg [0, 1, 5] [] [
                                           ⟨some 159, .mv (.t 0), none⟩,
                                           ⟨some 160, .mv (.t 5), none⟩,
                                           ⟨some 161, .mv (.t 1), none⟩,
                                           ⟨some 162, .iad 25 (.t 159) (.t 160), none⟩,
                                           ⟨some 163, .fad (.t 162) 18, none⟩,
                                           ⟨none, .st 1 (.t 163) (.t 161), none⟩] none)
                                         (.seq (.reg [0, 1, 5] [] [
                                            ⟨some 164, .mv (.t 1), none⟩,
                                            ⟨some 165, .bin .add (.t 164) (.c (.v false (.int .i64 1))), none⟩,
                                            ⟨some 1, .mv (.t 165), none⟩] none)
                                          (.seq (.reg [0, 1, 5] [] [
                                             ⟨some 166, .mv (.t 0), none⟩,
                                             ⟨some 167, .mv (.t 5), none⟩,
                                             ⟨some 168, .mv (.t 1), none⟩,
                                             ⟨some 169, .iad 25 (.t 166) (.t 167), none⟩,
                                             ⟨some 170, .fad (.t 169) 19, none⟩,
                                             ⟨none, .st 1 (.t 170) (.t 168), none⟩] none)
                                           (.seq (.reg [0, 1, 5] [] [
                                              ⟨some 171, .mv (.t 1), none⟩,
                                              ⟨some 172, .bin .add (.t 171) (.c (.v false (.int .i64 1))), none⟩,
                                              ⟨some 1, .mv (.t 172), none⟩] none)
                                            (.seq (.reg [0, 1, 5] [] [
                                               ⟨some 173, .mv (.t 0), none⟩,
                                               ⟨some 174, .mv (.t 5), none⟩,
                                               ⟨some 175, .mv (.t 1), none⟩,
                                               ⟨some 176, .iad 25 (.t 173) (.t 174), none⟩,
                                               ⟨some 177, .fad (.t 176) 20, none⟩,
                                               ⟨none, .st 1 (.t 177) (.t 175), none⟩] none)
                                             (.seq (.reg [0, 1, 5] [] [
                                                ⟨some 178, .mv (.t 1), none⟩,
                                                ⟨some 179, .bin .add (.t 178) (.c (.v false (.int .i64 1))), none⟩,
                                                ⟨some 1, .mv (.t 179), none⟩] none)
                                              (.seq (.reg [0, 1, 5] [] [
                                                 ⟨some 180, .mv (.t 0), none⟩,
                                                 ⟨some 181, .mv (.t 5), none⟩,
                                                 ⟨some 182, .mv (.t 1), none⟩,
                                                 ⟨some 183, .iad 25 (.t 180) (.t 181), none⟩,
                                                 ⟨some 184, .fad (.t 183) 21, none⟩,
                                                 ⟨none, .st 1 (.t 184) (.t 182), none⟩] none)
                                               (.seq (.reg [0, 1, 5] [] [
                                                  ⟨some 185, .mv (.t 1), none⟩,
                                                  ⟨some 186, .bin .add (.t 185) (.c (.v false (.int .i64 1))), none⟩,
                                                  ⟨some 1, .mv (.t 186), none⟩] none)
                                                (.seq (.reg [0, 1, 5] [] [
                                                   ⟨some 187, .mv (.t 0), none⟩,
                                                   ⟨some 188, .mv (.t 5), none⟩,
                                                   ⟨some 189, .mv (.t 1), none⟩,
                                                   ⟨some 190, .iad 25 (.t 187) (.t 188), none⟩,
                                                   ⟨some 191, .fad (.t 190) 22, none⟩,
                                                   ⟨none, .st 1 (.t 191) (.t 189), none⟩] none)
                                                 (.seq (.reg [0, 1, 5] [] [
                                                    ⟨some 192, .mv (.t 1), none⟩,
                                                    ⟨some 193, .bin .add (.t 192) (.c (.v false (.int .i64 1))), none⟩,
                                                    ⟨some 1, .mv (.t 193), none⟩] none)
                                                  (.seq (.reg [0, 1, 5] [] [
                                                     ⟨some 194, .mv (.t 0), none⟩,
                                                     ⟨some 195, .mv (.t 5), none⟩,
                                                     ⟨some 196, .mv (.t 1), none⟩,
                                                     ⟨some 197, .bin .rem (.t 196) (.c (.v false (.int .i64 3))), none⟩,
                                                     ⟨some 198, .bin .eql (.t 197) (.c (.v false (.int .i64 0))), none⟩,
                                                     ⟨some 199, .iad 25 (.t 194) (.t 195), none⟩,
                                                     ⟨some 200, .fad (.t 199) 23, none⟩,
                                                     ⟨none, .st 1 (.t 200) (.t 198), none⟩] none)
                                                   (.seq (.reg [0, 1, 5] [] [
                                                      ⟨some 201, .mv (.t 1), none⟩,
                                                      ⟨some 202, .bin .add (.t 201) (.c (.v false (.int .i64 1))), none⟩,
                                                      ⟨some 1, .mv (.t 202), none⟩] none)
                                                    (.reg [0, 1, 5] [(209, 1)] [
                                                      ⟨some 203, .mv (.t 0), none⟩,
                                                      ⟨some 204, .mv (.t 5), none⟩,
                                                      ⟨some 205, .iad 25 (.t 203) (.t 204), none⟩,
                                                      ⟨some 206, .fad (.t 205) 24, none⟩,
                                                      ⟨some 207, .ld false 1 (.t 206), none⟩,
                                                      ⟨some 208, .mv (.t 1), none⟩,
                                                      ⟨some 209, .call 193 [0] [(.t 207), (.t 208)], none⟩,
                                                      ⟨some 1, .mv (.t 209), none⟩] none))))))))))))))))))))))))))))))))))))))))))))))
       (.reg [0, 1, 5] [] [
         ⟨some 10, .mv (.t 5), none⟩,
         ⟨some 11, .bin .add (.t 10) (.c (.v false (.int .i64 1))), none⟩,
         ⟨some 5, .mv (.t 11), none⟩] none))

def pb195 : PC :=
.seq (.reg [0, 1] [] [
   ⟨some 4, .mv (.c (.v false (.int .i64 0))), none⟩] none)
 (.seq (.seq (.reg [0, 1, 5] [] [
     ⟨some 5, .mv (.c (.v false (.int .i64 0))), none⟩] none)
   (.blk 0 (.loop pl195_0)))
  (.seq (.reg [0, 1, 4] [] [
     ⟨some 210, .mv (.t 1), none⟩,
     ⟨some 4, .mv (.t 210), none⟩] none)
   (.ret)))

def pf195 : PF := ⟨[.s 4], [0], pb195⟩

-- loop.example/g00496/laws.markText
def pl196_0 : PC :=
.seq (.seq (.reg [0, 3, 7] [] [
          ⟨some 6, .mv (.t 0), none⟩,
          ⟨some 7, .bin .gtr (.t 6) (.c (.v false (.int .i64 0))), none⟩] none)
        (.cond (.t 7) (.skip)
         (.exit 0)))
       (.blk 1 (.seq (.reg [0, 3] [] [
           ⟨some 8, .mv (.t 0), none⟩,
           ⟨some 9, .bin .rem (.t 8) (.c (.v false (.int .i64 10))), none⟩,
           ⟨some 10, .bin .add (.c (.v false (.int .i64 48))) (.t 9), none⟩,
           ⟨some 11, .cvi .u8 (.t 10), none⟩,
           ⟨some 12, .bsl 1 [.int .u8 0] 1 [(0, (.t 11))], none⟩,
           ⟨some 13, .cvs (.t 12), none⟩,
           ⟨some 14, .mv (.t 3), none⟩,
           ⟨some 15, .bin .add (.t 13) (.t 14), none⟩,
           ⟨some 3, .mv (.t 15), none⟩] none)
         (.reg [0, 3] [] [
           ⟨some 16, .mv (.t 0), none⟩,
           ⟨some 17, .bin .quo (.t 16) (.c (.v false (.int .i64 10))), none⟩,
           ⟨some 0, .mv (.t 17), none⟩] none)))

def pb196 : PC :=
.seq (.reg [0] [] [
   ⟨some 2, .mv (.c (.v false (.str ⟨#[]⟩))), none⟩] none)
 (.seq (.seq (.reg [0, 5] [] [
     ⟨some 4, .mv (.t 0), none⟩,
     ⟨some 5, .bin .leq (.t 4) (.c (.v false (.int .i64 0))), none⟩] none)
   (.cond (.t 5) (.seq (.reg [2] [] [
       ⟨some 2, .mv (.c (.v false (.str ⟨#[109, 48]⟩))), none⟩] none)
     (.ret))
    (.skip)))
  (.seq (.reg [0, 3] [] [
     ⟨some 3, .mv (.c (.v false (.str ⟨#[]⟩))), none⟩] none)
   (.seq (.blk 0 (.loop pl196_0))
    (.seq (.reg [2] [] [
       ⟨some 18, .mv (.t 3), none⟩,
       ⟨some 19, .bin .add (.c (.v false (.str ⟨#[109]⟩))) (.t 18), none⟩,
       ⟨some 2, .mv (.t 19), none⟩] none)
     (.ret)))))

def pf196 : PF := ⟨[.s 2], [], pb196⟩

-- loop.example/g00496/laws.markValS
def pl197_0 : PC :=
.seq (.seq (.reg [0, 1, 5, 9] [] [
         ⟨some 6, .mv (.t 5), none⟩,
         ⟨some 7, .mv (.t 0), none⟩,
         ⟨some 8, .len (.t 7), none⟩,
         ⟨some 9, .bin .lss (.t 6) (.t 8), none⟩] none)
       (.cond (.t 9) (.skip)
        (.exit 0)))
      (.seq (.blk 1 (.seq (.reg [0, 1, 5] [] [
           ⟨some 12, .mv (.t 0), none⟩,
           ⟨some 13, .mv (.t 5), none⟩,
           ⟨some 14, .mv (.t 1), none⟩,
           ⟨some 15, .iad 3 (.t 12) (.t 13), none⟩,
           ⟨some 16, .fad (.t 15) 0, none⟩,
           ⟨none, .st 1 (.t 16) (.t 14), none⟩] none)
         (.seq (.reg [0, 1, 5] [] [
            ⟨some 17, .mv (.t 1), none⟩,
            ⟨some 18, .bin .add (.t 17) (.c (.v false (.int .i64 1))), none⟩,
            ⟨some 1, .mv (.t 18), none⟩] none)
          (.seq (.reg [0, 1, 5] [] [
             ⟨some 19, .mv (.t 0), none⟩,
             ⟨some 20, .mv (.t 5), none⟩,
             ⟨some 21, .mv (.t 1), none⟩,
             ⟨some 22, .iad 3 (.t 19) (.t 20), none⟩,
             ⟨some 23, .fad (.t 22) 1, none⟩,
             ⟨none, .st 1 (.t 23) (.t 21), none⟩] none)
           (.seq (.reg [0, 1, 5] [] [
              ⟨some 24, .mv (.t 1), none⟩,
              ⟨some 25, .bin .add (.t 24) (.c (.v false (.int .i64 1))), none⟩,
              ⟨some 1, .mv (.t 25), none⟩] none)
            (.seq (.reg [0, 1, 5] [] [
               ⟨some 26, .mv (.t 0), none⟩,
               ⟨some 27, .mv (.t 5), none⟩,
               ⟨some 28, .mv (.t 1), none⟩,
               ⟨some 29, .call 196 [] [(.t 28)], none⟩,
               ⟨some 30, .iad 3 (.t 26) (.t 27), none⟩,
               ⟨some 31, .fad (.t 30) 2, none⟩,
               ⟨none, .st 1 (.t 31) (.t 29), none⟩] none)
             (.reg [0, 1, 5] [] [
               ⟨some 32, .mv (.t 1), none⟩,
               ⟨some 33, .bin .add (.t 32) (.c (.v false (.int .i64 1))), none⟩,
               ⟨some 1, .mv (.t 33), none⟩] none)))))))
       (.reg [0, 1, 5] [] [
         ⟨some 10, .mv (.t 5), none⟩,
         ⟨some 11, .bin .add (.t 10) (.c (.v false (.int .i64 1))), none⟩,
         ⟨some 5, .mv (.t 11), none⟩] none))

def pb197 : PC :=
.seq (.reg [0, 1] [] [
   ⟨some 4, .mv (.c (.v false (.int .i64 0))), none⟩] none)
 (.seq (.seq (.reg [0, 1, 5] [] [
     ⟨some 5, .mv (.c (.v false (.int .i64 0))), none⟩] none)
   (.blk 0 (.loop pl197_0)))
  (.seq (.reg [0, 4] [] [
     ⟨some 34, .mv (.t 1), none⟩,
     ⟨some 4, .mv (.t 34), none⟩] none)
   (.ret)))

def pf197 : PF := ⟨[.s 4], [0], pb197⟩

-- loop.example/g00496/laws.markWorld
def pb198 : PC :=
.seq (.reg [0, 1, 2] [] [
   ⟨some 2, .box 14 (.t 0), none⟩,
   ⟨some 4, .mv (.c (.v false (.int .i64 0))), none⟩] none)
 (.seq (.reg [0, 1, 2] [(8, 1)] [
    ⟨some 5, .fad (.t 2) 0, none⟩,
    ⟨some 6, .ld true 3 (.t 5), none⟩,
    ⟨some 7, .mv (.t 1), none⟩,
    ⟨some 8, .call 186 [0] [(.t 6), (.t 7)], none⟩,
    ⟨some 1, .mv (.t 8), none⟩] none)
  (.seq (.reg [0, 1, 2] [(12, 1)] [
     ⟨some 9, .fad (.t 2) 6, none⟩,
     ⟨some 10, .ld true 2 (.t 9), none⟩,
     ⟨some 11, .mv (.t 1), none⟩,
     ⟨some 12, .call 189 [0] [(.t 10), (.t 11)], none⟩,
     ⟨some 1, .mv (.t 12), none⟩] none)
   (.seq (.reg [0, 1, 2] [(16, 1)] [
      ⟨some 13, .fad (.t 2) 8, none⟩,
      ⟨some 14, .ld false 1 (.t 13), none⟩,
      ⟨some 15, .mv (.t 1), none⟩,
      ⟨some 16, .call 183 [0] [(.t 14), (.t 15)], none⟩,
      ⟨some 1, .mv (.t 16), none⟩] none)
    (.seq (.reg [0, 1, 2] [(20, 1)] [
       ⟨some 17, .fad (.t 2) 9, none⟩,
       ⟨some 18, .ld false 1 (.t 17), none⟩,
       ⟨some 19, .mv (.t 1), none⟩,
       ⟨some 20, .call 190 [0] [(.t 18), (.t 19)], none⟩,
       ⟨some 1, .mv (.t 20), none⟩] none)
     (.seq (.reg [0, 1, 2] [(24, 1)] [
        ⟨some 21, .fad (.t 2) 10, none⟩,
        ⟨some 22, .ld false 1 (.t 21), none⟩,
        ⟨some 23, .mv (.t 1), none⟩,
        ⟨some 24, .call 187 [0] [(.t 22), (.t 23)], none⟩,
        ⟨some 1, .mv (.t 24), none⟩] none)
      (.seq (.reg [0, 1, 2] [(28, 1)] [
         ⟨some 25, .fad (.t 2) 11, none⟩,
         ⟨some 26, .ld false 1 (.t 25), none⟩,
         ⟨some 27, .mv (.t 1), none⟩,
         ⟨some 28, .call 190 [0] [(.t 26), (.t 27)], none⟩,
         ⟨some 1, .mv (.t 28), none⟩] none)
       (.seq (.reg [0, 1, 2] [(32, 1)] [
          ⟨some 29, .fad (.t 2) 12, none⟩,
          ⟨some 30, .ld false 1 (.t 29), none⟩,
          ⟨some 31, .mv (.t 1), none⟩,
          ⟨some 32, .call 195 [0] [(.t 30), (.t 31)], none⟩,
          ⟨some 1, .mv (.t 32), none⟩] none)
        (.seq (.reg [0, 1] [(36, 1)] [
           ⟨some 33, .fad (.t 2) 13, none⟩,
           ⟨some 34, .ld false 1 (.t 33), none⟩,
           ⟨some 35, .mv (.t 1), none⟩,
           ⟨some 36, .call 188 [0] [(.t 34), (.t 35)], none⟩,
           ⟨some 1, .mv (.t 36), none⟩] none)
         (.seq (.reg [0, 1, 4] [] [
            ⟨some 37, .mv (.t 1), none⟩,
            ⟨some 4, .mv (.t 37), none⟩] none)
          (.ret))))))))))

def pf198 : PF := ⟨[.s 4], [0], pb198⟩

-- loop.example/g00496/laws.szConf
def pb214 : PC :=
.seq (.reg [1, 2] [] [
   ⟨some 2, .box 3 (.t 0), none⟩,
   ⟨some 4, .mv (.c (.v false (.int .i64 0))), none⟩] none)
 (.seq (.reg [1] [(8, 1)] [
    ⟨some 5, .fad (.t 2) 0, none⟩,
    ⟨some 6, .ld false 1 (.t 5), none⟩,
    ⟨some 7, .mv (.t 1), none⟩,
    ⟨some 8, .call 219 [] [(.t 6), (.t 7)], none⟩,
    ⟨some 1, .mv (.t 8), none⟩] none)
  (.seq (.seq (.reg [1, 10] [] [
      ⟨some 9, .mv (.t 1), none⟩,
      ⟨some 10, .bin .lss (.t 9) (.c (.v false (.int .i64 0))), none⟩] none)
    (.cond (.t 10) (.seq (.reg [4] [] [
        ⟨some 4, .mv (.c (.v false (.int .i64 (-1)))), none⟩] none)
      (.ret))
     (.skip)))
   (.seq (.reg [1, 4] [] [
      ⟨some 11, .mv (.t 1), none⟩,
      ⟨some 4, .mv (.t 11), none⟩] none)
    (.ret))))

def pf214 : PF := ⟨[.s 4], [], pb214⟩

-- loop.example/g00496/laws.szIntS
def pb219 : PC :=
.seq (.reg [0, 1] [] [
   ⟨some 4, .mv (.c (.v false (.int .i64 0))), none⟩] none)
 (.seq (.reg [1] [] [
    ⟨some 5, .mv (.t 1), none⟩,
    ⟨some 6, .mv (.t 0), none⟩,
    ⟨some 7, .len (.t 6), none⟩,
    ⟨some 8, .bin .sub (.t 5) (.t 7), none⟩,
    ⟨some 1, .mv (.t 8), none⟩] none)
  (.seq (.seq (.reg [1, 10] [] [
      ⟨some 9, .mv (.t 1), none⟩,
      ⟨some 10, .bin .lss (.t 9) (.c (.v false (.int .i64 0))), none⟩] none)
    (.cond (.t 10) (.seq (.reg [4] [] [
        ⟨some 4, .mv (.c (.v false (.int .i64 (-1)))), none⟩] none)
      (.ret))
     (.skip)))
   (.seq (.reg [4] [] [
      ⟨some 11, .mv (.t 1), none⟩,
      ⟨some 4, .mv (.t 11), none⟩] none)
    (.ret))))

def pf219 : PF := ⟨[.s 4], [], pb219⟩

-- loop.example/g00496/laws.toConf
def pb238 : PC :=
.seq (.reg [1, 2] [] [
   ⟨some 1, .box 3 (.t 0), none⟩,
   ⟨some 2, .alloc [(.nl 1), (.v false (.int .i64 0)), (.v false (.int .i64 0))], none⟩] none)
 (.seq (.reg [1, 2, 3] [] [
    ⟨some 3, .alloc [(.nl 1), (.v false (.int .i64 0)), (.v false (.int .i64 0))], none⟩] none)
  (.seq (.reg [1, 2, 3] [] [
     ⟨some 4, .fad (.t 1) 0, none⟩,
     ⟨some 5, .ld false 1 (.t 4), none⟩,
     ⟨some 6, .call 244 [] [(.t 5)], none⟩,
     ⟨some 7, .fad (.t 3) 0, none⟩,
     ⟨none, .st 1 (.t 7) (.t 6), none⟩] none)
   (.seq (.reg [1, 2, 3] [] [
      ⟨some 8, .fad (.t 1) 1, none⟩,
      ⟨some 9, .ld false 1 (.t 8), none⟩,
      ⟨some 10, .fad (.t 3) 1, none⟩,
      ⟨none, .st 1 (.t 10) (.t 9), none⟩] none)
    (.seq (.reg [2, 3] [] [
       ⟨some 11, .fad (.t 1) 2, none⟩,
       ⟨some 12, .ld false 1 (.t 11), none⟩,
       ⟨some 13, .fad (.t 3) 2, none⟩,
       ⟨none, .st 1 (.t 13) (.t 12), none⟩] none)
     (.seq (.reg [2] [] [
        ⟨some 14, .ld true 3 (.t 3), none⟩,
        ⟨none, .st 3 (.t 2) (.t 14), none⟩] none)
      (.ret))))))

def pf238 : PF := ⟨[.b 2 3 true], [], pb238⟩

-- loop.example/g00496/laws.toIntS
def pl244_0 : PC :=
.seq (.seq (.reg [0, 3, 4, 11] [] [
          ⟨some 8, .mv (.t 4), none⟩,
          ⟨some 9, .mv (.t 0), none⟩,
          ⟨some 10, .len (.t 9), none⟩,
          ⟨some 11, .bin .lss (.t 8) (.t 10), none⟩] none)
        (.cond (.t 11) (.skip)
         (.exit 0)))
       (.seq (.blk 1 (.reg [0, 3, 4] [] [
           ⟨some 14, .mv (.t 3), none⟩,
           ⟨some 15, .mv (.t 4), none⟩,
           ⟨some 16, .mv (.t 0), none⟩,
           ⟨some 17, .mv (.t 4), none⟩,
           ⟨some 18, .iad 1 (.t 16) (.t 17), none⟩,
           ⟨some 19, .ld false 1 (.t 18), none⟩,
           ⟨some 20, .iad 1 (.t 14) (.t 15), none⟩,
           ⟨none, .st 1 (.t 20) (.t 19), none⟩] none))
        (.reg [0, 3, 4] [] [
          ⟨some 12, .mv (.t 4), none⟩,
          ⟨some 13, .bin .add (.t 12) (.c (.v false (.int .i64 1))), none⟩,
          ⟨some 4, .mv (.t 13), none⟩] none))

def pb244 : PC :=
.seq (.reg [0] [] [
   ⟨some 2, .mv (.c (.nl 1)), none⟩] none)
 (.seq (.reg [0, 3] [(7, 3)] [
    ⟨some 5, .mv (.t 0), none⟩,
    ⟨some 6, .len (.t 5), none⟩,
    ⟨some 7, .mks 1 8 [.int .i64 0] (.t 6), none⟩,
    ⟨some 3, .mv (.t 7), none⟩] none)
  (.seq (.seq (.reg [0, 3, 4] [] [
      ⟨some 4, .mv (.c (.v false (.int .i64 0))), none⟩] none)
    (.blk 0 (.loop pl244_0)))
   (.seq (.reg [2, 3] [] [
      ⟨some 21, .mv (.t 3), none⟩,
      ⟨some 2, .mv (.t 21), none⟩] none)
    (.ret))))

def pf244 : PF := ⟨[.s 2], [], pb244⟩

-- loop.example/g00496/spec.ColsOk
def pl268_0 : PC :=
.seq (.seq (.reg [0, 3, 7] [] [
         ⟨some 4, .mv (.t 3), none⟩,
         ⟨some 5, .mv (.t 0), none⟩,
         ⟨some 6, .len (.t 5), none⟩,
         ⟨some 7, .bin .lss (.t 4) (.t 6), none⟩] none)
       (.cond (.t 7) (.skip)
        (.exit 0)))
      (.seq (.blk 1 (.seq (.reg [0, 3, 15] [] [
           ⟨some 10, .mv (.t 0), none⟩,
           ⟨some 11, .mv (.t 3), none⟩,
           ⟨some 12, .iad 1 (.t 10) (.t 11), none⟩,
           ⟨some 13, .ld false 1 (.t 12), none⟩,
           ⟨some 14, .call 377 [] [(.t 13), (.c (.v false (.int .i64 1))), (.c (.v false (.int .i64 2)))], none⟩,
           ⟨some 15, .un .not (.t 14), none⟩] none)
         (.cond (.t 15) (.seq (.reg [2] [] [
             ⟨some 2, .mv (.c (.v false (.bool false))), none⟩] none)
           (.ret))
          (.skip))))
       (.reg [0, 3] [] [
         ⟨some 8, .mv (.t 3), none⟩,
         ⟨some 9, .bin .add (.t 8) (.c (.v false (.int .i64 1))), none⟩,
         ⟨some 3, .mv (.t 9), none⟩] none))

def pb268 : PC :=
.seq (.reg [0] [] [
   ⟨some 2, .mv (.c (.v false (.bool false))), none⟩] none)
 (.seq (.seq (.reg [0, 3] [] [
     ⟨some 3, .mv (.c (.v false (.int .i64 0))), none⟩] none)
   (.blk 0 (.loop pl268_0)))
  (.seq (.reg [2] [(18, 2)] [
     ⟨some 16, .mv (.t 0), none⟩,
     ⟨some 17, .len (.t 16), none⟩,
     ⟨some 18, .call 377 [] [(.t 17), (.c (.v false (.int .i64 1))), (.c (.v false (.int .i64 3)))], none⟩,
     ⟨some 2, .mv (.t 18), none⟩] none)
   (.ret)))

def pf268 : PF := ⟨[.s 2], [], pb268⟩

-- loop.example/g00496/spec.ConfOk
def pb269 : PC :=
.seq (.reg [1] [] [
   ⟨some 1, .box 3 (.t 0), none⟩,
   ⟨some 2, .mv (.c (.v false (.bool false))), none⟩] none)
 (.seq (.reg [2, 9, 14] [(5, 2)] [
    ⟨some 3, .fad (.t 1) 0, none⟩,
    ⟨some 4, .ld false 1 (.t 3), none⟩,
    ⟨some 5, .call 268 [] [(.t 4)], none⟩,
    ⟨some 6, .mv (.t 5), none⟩,
    ⟨some 7, .fad (.t 1) 1, some (6, true)⟩,
    ⟨some 8, .ld false 1 (.t 7), some (6, true)⟩,
    ⟨some 9, .call 377 [] [(.t 8), (.c (.v false (.int .i64 1))), (.c (.v false (.int .i64 4)))], some (6, true)⟩,
    ⟨some 10, .pick (.t 6) (.t 9) (.c (.v false (.bool false))), none⟩,
    ⟨some 11, .mv (.t 10), none⟩,
    ⟨some 12, .fad (.t 1) 2, some (11, true)⟩,
    ⟨some 13, .ld false 1 (.t 12), some (11, true)⟩,
    ⟨some 14, .call 377 [] [(.t 13), (.c (.v false (.int .i64 1))), (.c (.v false (.int .i64 8)))], some (11, true)⟩,
    ⟨some 15, .pick (.t 11) (.t 14) (.c (.v false (.bool false))), none⟩,
    ⟨some 2, .mv (.t 15), none⟩] none)
  (.ret))

def pf269 : PF := ⟨[.s 2], [], pb269⟩

-- loop.example/g00496/spec.PoolNew
def pl319_0 : PC :=
.seq (.seq (.reg [0, 3, 4, 12] [] [
          ⟨some 6, .mv (.t 4), none⟩,
          ⟨some 7, .mv (.t 0), none⟩,
          ⟨some 8, .bin .lss (.t 6) (.t 7), none⟩,
          ⟨some 9, .mv (.t 8), none⟩,
          ⟨some 10, .mv (.t 0), some (9, true)⟩,
          ⟨some 11, .bin .leq (.t 10) (.c (.v false (.int .i64 8))), some (9, true)⟩,
          ⟨some 12, .pick (.t 9) (.t 11) (.c (.v false (.bool false))), none⟩] none)
        (.cond (.t 12) (.skip)
         (.exit 0)))
       (.seq (.blk 1 (.reg [0, 3, 4] [(18, 3)] [
           ⟨some 15, .mv (.t 3), none⟩,
           ⟨some 16, .build [(.v false (.int .i64 0)), (.v false (.int .i64 0)), (.v false (.int .i64 0)), (.nl 2), (.nl 1)] [], none⟩,
           ⟨some 17, .bsl 5 [.int .i64 0, .int .i64 0, .int .i64 0, .sl 2 [], .sl 1 []] 1 [(0, (.t 16))], none⟩,
           ⟨some 18, .app 5 72 (.t 15) (.t 17), none⟩,
           ⟨some 3, .mv (.t 18), none⟩] none))
        (.reg [0, 3, 4] [] [
          ⟨some 13, .mv (.t 4), none⟩,
          ⟨some 14, .bin .add (.t 13) (.c (.v false (.int .i64 1))), none⟩,
          ⟨some 4, .mv (.t 14), none⟩] none))

def pb319 : PC :=
.seq (.reg [0] [] [
   ⟨some 2, .mv (.c (.nl 5)), none⟩] none)
 (.seq (.reg [0, 3] [(5, 3)] [
    ⟨some 5, .bsl 5 [] 0 [], none⟩,
    ⟨some 3, .mv (.t 5), none⟩] none)
  (.seq (.seq (.reg [0, 3, 4] [] [
      ⟨some 4, .mv (.c (.v false (.int .i64 0))), none⟩] none)
    (.blk 0 (.loop pl319_0)))
   (.seq (.reg [2, 3] [] [
      ⟨some 19, .mv (.t 3), none⟩,
      ⟨some 2, .mv (.t 19), none⟩] none)
    (.ret))))

def pf319 : PF := ⟨[.s 2], [], pb319⟩

-- loop.example/g00496/spec.WorldNew
def pl346_0 : PC :=
.seq (.seq (.reg [2, 3, 4, 23] [] [
           ⟨some 22, .mv (.t 4), none⟩,
           ⟨some 23, .bin .lss (.t 22) (.c (.v false (.int .i64 5))), none⟩] none)
         (.cond (.t 23) (.skip)
          (.exit 0)))
        (.seq (.blk 1 (.seq (.reg [2, 3, 4] [] [
             ⟨some 26, .fad (.t 3) 11, none⟩,
             ⟨some 27, .ld false 1 (.t 26), none⟩,
             ⟨some 28, .bsl 1 [.int .i64 0] 1 [(0, (.c (.v false (.int .i64 (-1)))))], none⟩,
             ⟨some 29, .app 1 8 (.t 27) (.t 28), none⟩,
             ⟨some 30, .fad (.t 3) 11, none⟩,
             ⟨none, .st 1 (.t 30) (.t 29), none⟩] none)
           (.reg [2, 3, 4] [] [
             ⟨some 31, .fad (.t 3) 12, none⟩,
             ⟨some 32, .ld false 1 (.t 31), none⟩,
             ⟨some 33, .build [(.v false (.int .i64 0)), (.v false (.int .i64 0)), (.v false (.int .i64 0)), (.nl 3), (.v false (.int .i64 0)), (.v false (.int .i64 0)), (.v false (.int .i64 0)), (.v false (.int .i64 0)), (.v false (.int .i64 0)), (.v false (.int .i64 0)), (.v false (.int .i64 0)), (.v false (.str ⟨#[]⟩)), (.nl 7), (.v false (.int .i64 0)), (.nl 1), (.v false (.int .i64 0)), (.v false (.int .i64 0)), (.nl 5), (.v false (.int .i64 0)), (.v false (.int .i64 0)), (.v false (.int .i64 0)), (.v false (.int .i64 0)), (.v false (.int .i64 0)), (.v false (.bool false)), (.nl 2)] [], none⟩,
             ⟨some 34, .bsl 25 [.int .i64 0, .int .i64 0, .int .i64 0, .sl 3 [], .int .i64 0, .int .i64 0, .int .i64 0, .int .i64 0, .int .i64 0, .int .i64 0, .int .i64 0, .str ⟨#[]⟩, .sl 7 [], .int .i64 0, .sl 1 [], .int .i64 0, .int .i64 0, .sl 5 [], .int .i64 0, .int .i64 0, .int .i64 0, .int .i64 0, .int .i64 0, .bool false, .sl 2 []] 1 [(0, (.t 33))], none⟩,
             ⟨some 35, .app 25 288 (.t 32) (.t 34), none⟩,
             ⟨some 36, .fad (.t 3) 12, none⟩,
             ⟨none, .st 1 (.t 36) (.t 35), none⟩] none)))
         (.reg [2, 3, 4] [] [
           ⟨some 24, .mv (.t 4), none⟩,
           ⟨some 25, .bin .add (.t 24) (.c (.v false (.int .i64 1))), none⟩,
           ⟨some 4, .mv (.t 25), none⟩] none))

def pb346 : PC :=
.seq (.reg [1, 2] [] [
   ⟨some 1, .box 3 (.t 0), none⟩,
   ⟨some 2, .alloc [(.nl 1), (.v false (.int .i64 0)), (.v false (.int .i64 0)), (.v false (.int .i64 0)), (.v false (.int .i64 0)), (.v false (.int .i64 0)), (.v false (.int .i64 0)), (.nl 5), (.nl 5), (.nl 1), (.nl 3), (.nl 1), (.nl 25), (.nl 25)], none⟩] none)
 (.seq (.seq (.reg [1, 2, 7] [] [
     ⟨some 5, .ld true 3 (.t 1), none⟩,
     ⟨some 6, .call 269 [] [(.t 5)], none⟩,
     ⟨some 7, .un .not (.t 6), none⟩] none)
   (.cond (.t 7) (.seq (.reg [2] [] [
       ⟨some 8, .build [(.nl 1), (.v false (.int .i64 0)), (.v false (.int .i64 0)), (.v false (.int .i64 0)), (.v false (.int .i64 0)), (.v false (.int .i64 0)), (.v false (.int .i64 0)), (.nl 5), (.nl 5), (.nl 1), (.nl 3), (.nl 1), (.nl 25), (.nl 25)] [], none⟩,
       ⟨none, .st 14 (.t 2) (.t 8), none⟩] none)
     (.ret))
    (.skip)))
  (.seq (.reg [2, 3] [] [
     ⟨some 9, .bsl 1 [] 0 [], none⟩,
     ⟨some 10, .fad (.t 1) 0, none⟩,
     ⟨some 11, .ld false 1 (.t 10), none⟩,
     ⟨some 12, .app 1 8 (.t 9) (.t 11), none⟩,
     ⟨some 13, .fad (.t 1) 1, none⟩,
     ⟨some 14, .ld false 1 (.t 13), none⟩,
     ⟨some 15, .fad (.t 1) 2, none⟩,
     ⟨some 16, .ld false 1 (.t 15), none⟩,
     ⟨some 17, .build [(.nl 1), (.v false (.int .i64 0)), (.v false (.int .i64 0))] [(0, 1, (.t 12)), (1, 1, (.t 14)), (2, 1, (.t 16))], none⟩,
     ⟨some 18, .fad (.t 1) 2, none⟩,
     ⟨some 19, .ld false 1 (.t 18), none⟩,
     ⟨some 20, .call 319 [] [(.t 19)], none⟩,
     ⟨some 21, .build [(.nl 1), (.v false (.int .i64 0)), (.v false (.int .i64 0)), (.v false (.int .i64 0)), (.v false (.int .i64 0)), (.v false (.int .i64 0)), (.v false (.int .i64 0)), (.nl 5), (.nl 5), (.nl 1), (.nl 3), (.nl 1), (.nl 25), (.nl 25)] [(0, 3, (.t 17)), (4, 1, (.c (.v false (.int .i64 1)))), (8, 1, (.t 20))], none⟩,
     ⟨some 3, .alloc [(.nl 1), (.v false (.int .i64 0)), (.v false (.int .i64 0)), (.v false (.int .i64 0)), (.v false (.int .i64 0)), (.v false (.int .i64 0)), (.v false (.int .i64 0)), (.nl 5), (.nl 5), (.nl 1), (.nl 3), (.nl 1), (.nl 25), (.nl 25)], none⟩,
     ⟨none, .st 14 (.t 3) (.t 21), none⟩] (some [(0, 2), (0, 5), (3, 5), (0, 7), (3, 7), (0, 10), (3, 10), (5, 11), (7, 11), (0, 13), (2, 13), (3, 13), (5, 13), (7, 13), (10, 13), (11, 13)]))
   (.seq (.seq (.reg [2, 3, 4] [] [
       ⟨some 4, .mv (.c (.v false (.int .i64 0))), none⟩] none)
     (.blk 0 (.loop pl346_0)))
    (.seq (.reg [2] [] [
       ⟨some 37, .ld true 14 (.t 3), none⟩,
       ⟨none, .st 14 (.t 2) (.t 37), none⟩] none)
     (.ret)))))

def pf346 : PF := ⟨[.b 2 14 true], [], pb346⟩

-- loop.example/g00496/spec.l1In
def pb377 : PC :=
.seq (.reg [0, 1, 2] [] [
   ⟨some 6, .mv (.c (.v false (.bool false))), none⟩] none)
 (.seq (.reg [6] [] [
    ⟨some 7, .mv (.t 0), none⟩,
    ⟨some 8, .mv (.t 1), none⟩,
    ⟨some 9, .bin .geq (.t 7) (.t 8), none⟩,
    ⟨some 10, .mv (.t 9), none⟩,
    ⟨some 11, .mv (.t 0), some (10, true)⟩,
    ⟨some 12, .mv (.t 2), some (10, true)⟩,
    ⟨some 13, .bin .leq (.t 11) (.t 12), some (10, true)⟩,
    ⟨some 14, .pick (.t 10) (.t 13) (.c (.v false (.bool false))), none⟩,
    ⟨some 6, .mv (.t 14), none⟩] none)
  (.ret))

def pf377 : PF := ⟨[.s 6], [], pb377⟩

end Go.Proofs.Ytnadnanmgakkfaa.OM
