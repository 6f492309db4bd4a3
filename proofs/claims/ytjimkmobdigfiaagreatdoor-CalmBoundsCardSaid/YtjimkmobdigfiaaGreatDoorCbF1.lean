/- Calls that were run, part 2: by program. -/
import Derived.Test.YtjimkmobdigfiaaGreatDoorCbF0
set_option linter.unusedSimpArgs false
set_option linter.unusedVariables false
namespace Go.Ev
open Go Go.Proofs
set_option maxRecDepth 100000
noncomputable def LZ_0 : List Ent := [(6, [], .bool true)]
theorem LZ_0ok : okL Tryz.prog (kn T8) 4000 gl LZ_0 = true := by kernel_rfl
theorem LZ_0f : AllF Tryz.prog (gOf gl) LZ_0 := facts_of_ok nc_mixed gl_len gl_flat (nc_known T8ok) LZ_0ok
end Go.Ev
