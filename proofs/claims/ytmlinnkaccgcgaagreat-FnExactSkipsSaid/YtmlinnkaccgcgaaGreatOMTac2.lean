/- The own machine: the simp set for regions that draw. -/
import Derived.Test.YtmlinnkaccgcgaaGreatOMTac
set_option linter.all false
namespace Go.Proofs.YtmlinnkaccgcgaaGreat.OM
attribute [simp] upC ups kidKills upsOf upsAll fixAVs fillAV AV.isVal foots.eq_1 foots_cons footR footW wanted POp.reads POp.creates POp.takes parOk disj AV.refs AV.refsL
end Go.Proofs.YtmlinnkaccgcgaaGreat.OM
