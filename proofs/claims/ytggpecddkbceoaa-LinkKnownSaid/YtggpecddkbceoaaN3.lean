/- LinkKnown's walk, the other laws' contracts paid. -/
import Derived.Test.YtggpecddkbceoaaN2
import Derived.Test.YtggpecddkbceoaaM5
import Derived.Test.YtggpecddkbceoaaL8
import Derived.Test.YtggpecddkbceoaaL9
import Derived.Test.YtggpecddkbceoaaL10
set_option linter.unusedSimpArgs false
set_option linter.unusedVariables false
namespace Go.Proofs.Ytggpecddkbceoaa
open Go.RowKit Go.Eff
theorem known_any (w : World) : Calls Try.prog 8 #[] w (Ret (.bool true) (Below w.heap.size w)) :=
  known_walk (fun v l w h => plays_any 1 v l w h) (fun v l w h => linksays_any 1 v l w h) (fun n2 va vb la lb bo fi w ha hb => meets_any n2 va vb la lb bo fi w ha hb) (fun n2 cl w => gives_any n2 cl w) w
end Go.Proofs.Ytggpecddkbceoaa
