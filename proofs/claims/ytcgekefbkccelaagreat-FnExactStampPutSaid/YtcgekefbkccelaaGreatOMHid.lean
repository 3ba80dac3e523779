/- The own machine: short names for the rules that run a text. -/
import Derived.Test.YtcgekefbkccelaaGreatOMTac2
set_option linter.all false
namespace Go.Proofs.YtcgekefbkccelaaGreat.OM
abbrev Z1 := @wp_seq
abbrev Z2 := @wp_blk
abbrev Z3 := @wp_skip
abbrev Z4 := @wp_exit
abbrev Z5 := @wp_ret
abbrev Z6 := @seqQ_norm
abbrev Z7 := @seqQ_ret
abbrev Z8 := @seqQ_exit
abbrev Z9 := @blkQ_norm
abbrev Y1 := @blkQ_ret
abbrev Y2 := @blkQ_exit
abbrev Y3 := @loopQ_norm
abbrev Y4 := @loopQ_exit
abbrev Y5 := @loopQ_ret
abbrev Y6 := @endQ_ret
abbrev Y7 := @endQ_norm
abbrev Y8 := @endE_ret
abbrev Y9 := @endE_norm
section
variable {Γ : Env} {Q : Out → Prop} {L : AL}
theorem Xt {x : PX} {a b : PC} (h1 : (L.st.ev x).asBool = some true) (h : Wp Γ a Q L) : Wp Γ (.cond x a b) Q L := wp_cond h1 (fun _ => h) (fun e => by cases e)
theorem Xf {x : PX} {a b : PC} (h1 : (L.st.ev x).asBool = some false) (h : Wp Γ b Q L) : Wp Γ (.cond x a b) Q L := wp_cond h1 (fun e => by cases e) (fun _ => h)
theorem Xk {live ren ops draw} (h : ∀ K : Out → Prop, (∀ o, Q o → K o) → regQ K (runReg Γ live ren ops draw L)) : Wp Γ (.reg live ren ops draw) Q L := wp_regK h
end
end Go.Proofs.YtcgekefbkccelaaGreat.OM
