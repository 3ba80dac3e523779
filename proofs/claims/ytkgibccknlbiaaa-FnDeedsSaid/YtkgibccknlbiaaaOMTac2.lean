/- The own machine: the simp set for regions that draw. -/
import Derived.Test.YtkgibccknlbiaaaOMTac
set_option linter.all false
namespace Go.Proofs.Ytkgibccknlbiaaa.OM
theorem foots_step {Γ : Env} {o : PO} {os : List PO} {S S' : St} (h : stepO Γ o S = some S') : foots Γ (o :: os) S = (footR S o, footW S o) :: foots Γ os S' := by
  rw [foots_cons, h]
attribute [simp] upC ups kidKills upsOf upsAll fixAVs fillAV AV.isVal foots.eq_1 foots_cons footR footW wanted POp.reads POp.creates POp.takes parOk disj AV.refs AV.refsL
end Go.Proofs.Ytkgibccknlbiaaa.OM
