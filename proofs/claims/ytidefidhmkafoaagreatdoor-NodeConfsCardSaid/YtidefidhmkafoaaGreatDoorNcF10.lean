/- Calls that were run, part 11: by program. -/
import Derived.Test.YtidefidhmkafoaaGreatDoorNcF9
set_option linter.unusedSimpArgs false
set_option linter.unusedVariables false
namespace Go.Ev
open Go Go.Proofs
set_option maxRecDepth 100000
noncomputable def LZ_30 : List Ent := [(3, [.agg [.int .i64 (.ofNat 2), .int .i64 (.ofNat 8), .rng .i64 (.ofNat 1) (.ofNat 100), .rng .i64 (.ofNat 1) (.ofNat 10000)]], .bool true)]
theorem LZ_30ok : okL Tryz.prog (kn T8) 4000 gl LZ_30 = true := by kernel_rfl
theorem LZ_30f : AllF Tryz.prog (gOf gl) LZ_30 := facts_of_ok nc_mixed gl_len gl_flat (nc_known T8ok) LZ_30ok
noncomputable def LZ_31 : List Ent := [(3, [.agg [.int .i64 (.ofNat 3), .int .i64 (.ofNat 8), .rng .i64 (.ofNat 1) (.ofNat 100), .rng .i64 (.ofNat 1) (.ofNat 10000)]], .bool true)]
theorem LZ_31ok : okL Tryz.prog (kn T8) 4000 gl LZ_31 = true := by kernel_rfl
theorem LZ_31f : AllF Tryz.prog (gOf gl) LZ_31 := facts_of_ok nc_mixed gl_len gl_flat (nc_known T8ok) LZ_31ok
noncomputable def LZ_32 : List Ent := [(3, [.agg [.int .i64 (.ofNat 4), .int .i64 (.ofNat 8), .rng .i64 (.ofNat 1) (.ofNat 100), .rng .i64 (.ofNat 1) (.ofNat 10000)]], .bool true)]
theorem LZ_32ok : okL Tryz.prog (kn T8) 4000 gl LZ_32 = true := by kernel_rfl
theorem LZ_32f : AllF Tryz.prog (gOf gl) LZ_32 := facts_of_ok nc_mixed gl_len gl_flat (nc_known T8ok) LZ_32ok
noncomputable def LZ_33 : List Ent := [(3, [.agg [.int .i64 (.ofNat 5), .int .i64 (.ofNat 8), .rng .i64 (.ofNat 1) (.ofNat 100), .rng .i64 (.ofNat 1) (.ofNat 10000)]], .bool true)]
theorem LZ_33ok : okL Tryz.prog (kn T8) 4000 gl LZ_33 = true := by kernel_rfl
theorem LZ_33f : AllF Tryz.prog (gOf gl) LZ_33 := facts_of_ok nc_mixed gl_len gl_flat (nc_known T8ok) LZ_33ok
noncomputable def LZ_34 : List Ent := [(3, [.agg [.int .i64 (.ofNat 6), .int .i64 (.ofNat 8), .rng .i64 (.ofNat 1) (.ofNat 100), .rng .i64 (.ofNat 1) (.ofNat 10000)]], .bool true)]
theorem LZ_34ok : okL Tryz.prog (kn T8) 4000 gl LZ_34 = true := by kernel_rfl
theorem LZ_34f : AllF Tryz.prog (gOf gl) LZ_34 := facts_of_ok nc_mixed gl_len gl_flat (nc_known T8ok) LZ_34ok
noncomputable def LZ_35 : List Ent := [(3, [.agg [.int .i64 (.ofNat 7), .int .i64 (.ofNat 8), .rng .i64 (.ofNat 1) (.ofNat 100), .rng .i64 (.ofNat 1) (.ofNat 10000)]], .bool true)]
theorem LZ_35ok : okL Tryz.prog (kn T8) 4000 gl LZ_35 = true := by kernel_rfl
theorem LZ_35f : AllF Tryz.prog (gOf gl) LZ_35 := facts_of_ok nc_mixed gl_len gl_flat (nc_known T8ok) LZ_35ok
end Go.Ev
