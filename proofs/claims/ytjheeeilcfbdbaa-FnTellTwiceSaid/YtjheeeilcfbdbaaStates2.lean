/-
  Contracts: the states of the program: an array behind a pointer.
-/
import Derived.Test.YtjheeeilcfbdbaaKeys
import Derived.Test.YtjheeeilcfbdbaaStates1
import Derived.Laws.CopyOwn
import Derived.RegionTactic
set_option linter.all false
set_option maxRecDepth 100000
namespace Go.Proofs.Ytjheeeilcfbdbaa
open Go.RowKit




end Go.Proofs.Ytjheeeilcfbdbaa
