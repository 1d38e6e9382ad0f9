/-
  Types that mb uses (printed by mk_M0.py).
-/
import Derived.Test.YtomfoaaaeidpnaaDoorTy
set_option linter.unusedVariables false
namespace Go.Proofs.YtomfoaaaeidpnaaDoor
open Go Go.RowKit
end Go.Proofs.YtomfoaaaeidpnaaDoor
