/- The seat's functions keep their contracts. -/
import Derived.Test.YtphnbkhopedpgaaOMMach
import Derived.Test.YtphnbkhopedpgaaP1
import Derived.Test.YtphnbkhopedpgaaChecked
import Derived.KernelRfl
set_option linter.all false
namespace Go.Proofs.Ytphnbkhopedpgaa.OM
set_option maxRecDepth 100000
def ids : List (Nat × Nat) := [(95, 3), (115, 4), (112, 5), (114, 6), (104, 7), (122, 8), (134, 9), (96, 10), (136, 11), (91, 12), (267, 13), (11, 14), (315, 15), (34, 16), (310, 17), (244, 18), (31, 19), (152, 20), (314, 21), (33, 22), (215, 23), (302, 24), (240, 25), (23, 26), (148, 27), (324, 28), (43, 29), (342, 30), (61, 31), (214, 32), (269, 33), (238, 34), (13, 35), (146, 36), (345, 37), (64, 38), (187, 39), (172, 40), (141, 41), (280, 42), (287, 43), (294, 44), (278, 45), (283, 46), (200, 47), (38, 48), (318, 49), (377, 50), (87, 51), (239, 52), (147, 53), (366, 54), (80, 55), (219, 56), (268, 57), (12, 58), (379, 59), (365, 60), (364, 61), (375, 62), (382, 63), (378, 64), (376, 65)]
def κ (k : Nat) : FuncId := (ids.lookup k).getD 0
theorem chk_all : tab.all (fun p => chkF Go.Proofs.Try.prog κ (κ p.1) p.2) = true := by kernel_rfl
theorem seat_ok (f : Nat) (xs : List V) (r : V) (us : List (Nat × Nat × C)) (h : Gw TT f xs = some (r, us)) : OK Go.Proofs.Try.prog (κ f) xs r us := by
  refine Gw_ok (by kernel_rfl) (fun f F hF => ?_) f xs r us h
  have h1 := List.all_eq_true.1 chk_all (f, F) (lookup_mem hF)
  exact h1
end Go.Proofs.Ytphnbkhopedpgaa.OM
