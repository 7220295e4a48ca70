/- Parts of the proof. No condition. -/
import Derived.Test.YtjlaenhcemacdaaGreatK15
open Go.Proofs.Tryz
namespace Go.Proofs.YtjlaenhcemacdaaGreat
open Go.RowKit
set_option linter.unusedSimpArgs false
set_option linter.unusedVariables false
end Go.Proofs.YtjlaenhcemacdaaGreat
