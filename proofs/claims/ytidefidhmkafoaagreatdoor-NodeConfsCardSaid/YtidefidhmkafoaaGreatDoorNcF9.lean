/- Calls that were run, part 10: by program. -/
import Derived.Test.YtidefidhmkafoaaGreatDoorNcF8
set_option linter.unusedSimpArgs false
set_option linter.unusedVariables false
namespace Go.Ev
open Go Go.Proofs
set_option maxRecDepth 100000
noncomputable def LZ_14 : List Ent := [(3, [.agg [.int .i64 (.ofNat 1), .int .i64 (.ofNat 6), .rng .i64 (.ofNat 1) (.ofNat 100), .rng .i64 (.ofNat 1) (.ofNat 10000)]], .bool true)]
theorem LZ_14ok : okL Tryz.prog (kn T8) 4000 gl LZ_14 = true := by kernel_rfl
theorem LZ_14f : AllF Tryz.prog (gOf gl) LZ_14 := facts_of_ok nc_mixed gl_len gl_flat (nc_known T8ok) LZ_14ok
noncomputable def LZ_15 : List Ent := [(3, [.agg [.int .i64 (.ofNat 2), .int .i64 (.ofNat 6), .rng .i64 (.ofNat 1) (.ofNat 100), .rng .i64 (.ofNat 1) (.ofNat 10000)]], .bool true)]
theorem LZ_15ok : okL Tryz.prog (kn T8) 4000 gl LZ_15 = true := by kernel_rfl
theorem LZ_15f : AllF Tryz.prog (gOf gl) LZ_15 := facts_of_ok nc_mixed gl_len gl_flat (nc_known T8ok) LZ_15ok
noncomputable def LZ_16 : List Ent := [(3, [.agg [.int .i64 (.ofNat 3), .int .i64 (.ofNat 6), .rng .i64 (.ofNat 1) (.ofNat 100), .rng .i64 (.ofNat 1) (.ofNat 10000)]], .bool true)]
theorem LZ_16ok : okL Tryz.prog (kn T8) 4000 gl LZ_16 = true := by kernel_rfl
theorem LZ_16f : AllF Tryz.prog (gOf gl) LZ_16 := facts_of_ok nc_mixed gl_len gl_flat (nc_known T8ok) LZ_16ok
noncomputable def LZ_17 : List Ent := [(3, [.agg [.int .i64 (.ofNat 4), .int .i64 (.ofNat 6), .rng .i64 (.ofNat 1) (.ofNat 100), .rng .i64 (.ofNat 1) (.ofNat 10000)]], .bool true)]
theorem LZ_17ok : okL Tryz.prog (kn T8) 4000 gl LZ_17 = true := by kernel_rfl
theorem LZ_17f : AllF Tryz.prog (gOf gl) LZ_17 := facts_of_ok nc_mixed gl_len gl_flat (nc_known T8ok) LZ_17ok
noncomputable def LZ_18 : List Ent := [(3, [.agg [.int .i64 (.ofNat 5), .int .i64 (.ofNat 6), .rng .i64 (.ofNat 1) (.ofNat 100), .rng .i64 (.ofNat 1) (.ofNat 10000)]], .bool true),
  (3, [.agg [.rng .i64 (.negSucc 9223372036854775807) (.negSucc 0), .int .i64 (.ofNat 7), .rng .i64 (.negSucc 9223372036854775807) (.ofNat 9223372036854775807), .rng .i64 (.negSucc 9223372036854775807) (.ofNat 9223372036854775807)]], .bool true),
  (3, [.agg [.rng .i64 (.ofNat 7) (.ofNat 9223372036854775807), .int .i64 (.ofNat 7), .rng .i64 (.negSucc 9223372036854775807) (.ofNat 9223372036854775807), .rng .i64 (.negSucc 9223372036854775807) (.ofNat 9223372036854775807)]], .bool true),
  (3, [.agg [.rng .i64 (.ofNat 0) (.ofNat 6), .int .i64 (.ofNat 7), .rng .i64 (.negSucc 9223372036854775807) (.ofNat 0), .rng .i64 (.negSucc 9223372036854775807) (.ofNat 9223372036854775807)]], .bool true)]
theorem LZ_18ok : okL Tryz.prog (kn T8) 4000 gl LZ_18 = true := by kernel_rfl
theorem LZ_18f : AllF Tryz.prog (gOf gl) LZ_18 := facts_of_ok nc_mixed gl_len gl_flat (nc_known T8ok) LZ_18ok
noncomputable def LZ_19 : List Ent := [(3, [.agg [.rng .i64 (.ofNat 0) (.ofNat 6), .int .i64 (.ofNat 7), .rng .i64 (.ofNat 101) (.ofNat 9223372036854775807), .rng .i64 (.negSucc 9223372036854775807) (.ofNat 9223372036854775807)]], .bool true),
  (3, [.agg [.rng .i64 (.ofNat 0) (.ofNat 6), .int .i64 (.ofNat 7), .rng .i64 (.ofNat 1) (.ofNat 100), .rng .i64 (.negSucc 9223372036854775807) (.ofNat 0)]], .bool true),
  (3, [.agg [.rng .i64 (.ofNat 0) (.ofNat 6), .int .i64 (.ofNat 7), .rng .i64 (.ofNat 1) (.ofNat 100), .rng .i64 (.ofNat 10001) (.ofNat 9223372036854775807)]], .bool true)]
theorem LZ_19ok : okL Tryz.prog (kn T8) 4000 gl LZ_19 = true := by kernel_rfl
theorem LZ_19f : AllF Tryz.prog (gOf gl) LZ_19 := facts_of_ok nc_mixed gl_len gl_flat (nc_known T8ok) LZ_19ok
noncomputable def LZ_20 : List Ent := [(3, [.agg [.int .i64 (.ofNat 0), .int .i64 (.ofNat 7), .rng .i64 (.ofNat 1) (.ofNat 100), .rng .i64 (.ofNat 1) (.ofNat 10000)]], .bool true)]
theorem LZ_20ok : okL Tryz.prog (kn T8) 4000 gl LZ_20 = true := by kernel_rfl
theorem LZ_20f : AllF Tryz.prog (gOf gl) LZ_20 := facts_of_ok nc_mixed gl_len gl_flat (nc_known T8ok) LZ_20ok
noncomputable def LZ_21 : List Ent := [(3, [.agg [.int .i64 (.ofNat 1), .int .i64 (.ofNat 7), .rng .i64 (.ofNat 1) (.ofNat 100), .rng .i64 (.ofNat 1) (.ofNat 10000)]], .bool true)]
theorem LZ_21ok : okL Tryz.prog (kn T8) 4000 gl LZ_21 = true := by kernel_rfl
theorem LZ_21f : AllF Tryz.prog (gOf gl) LZ_21 := facts_of_ok nc_mixed gl_len gl_flat (nc_known T8ok) LZ_21ok
noncomputable def LZ_22 : List Ent := [(3, [.agg [.int .i64 (.ofNat 2), .int .i64 (.ofNat 7), .rng .i64 (.ofNat 1) (.ofNat 100), .rng .i64 (.ofNat 1) (.ofNat 10000)]], .bool true)]
theorem LZ_22ok : okL Tryz.prog (kn T8) 4000 gl LZ_22 = true := by kernel_rfl
theorem LZ_22f : AllF Tryz.prog (gOf gl) LZ_22 := facts_of_ok nc_mixed gl_len gl_flat (nc_known T8ok) LZ_22ok
noncomputable def LZ_23 : List Ent := [(3, [.agg [.int .i64 (.ofNat 3), .int .i64 (.ofNat 7), .rng .i64 (.ofNat 1) (.ofNat 100), .rng .i64 (.ofNat 1) (.ofNat 10000)]], .bool true)]
theorem LZ_23ok : okL Tryz.prog (kn T8) 4000 gl LZ_23 = true := by kernel_rfl
theorem LZ_23f : AllF Tryz.prog (gOf gl) LZ_23 := facts_of_ok nc_mixed gl_len gl_flat (nc_known T8ok) LZ_23ok
noncomputable def LZ_24 : List Ent := [(3, [.agg [.int .i64 (.ofNat 4), .int .i64 (.ofNat 7), .rng .i64 (.ofNat 1) (.ofNat 100), .rng .i64 (.ofNat 1) (.ofNat 10000)]], .bool true)]
theorem LZ_24ok : okL Tryz.prog (kn T8) 4000 gl LZ_24 = true := by kernel_rfl
theorem LZ_24f : AllF Tryz.prog (gOf gl) LZ_24 := facts_of_ok nc_mixed gl_len gl_flat (nc_known T8ok) LZ_24ok
noncomputable def LZ_25 : List Ent := [(3, [.agg [.int .i64 (.ofNat 5), .int .i64 (.ofNat 7), .rng .i64 (.ofNat 1) (.ofNat 100), .rng .i64 (.ofNat 1) (.ofNat 10000)]], .bool true)]
theorem LZ_25ok : okL Tryz.prog (kn T8) 4000 gl LZ_25 = true := by kernel_rfl
theorem LZ_25f : AllF Tryz.prog (gOf gl) LZ_25 := facts_of_ok nc_mixed gl_len gl_flat (nc_known T8ok) LZ_25ok
noncomputable def LZ_26 : List Ent := [(3, [.agg [.int .i64 (.ofNat 6), .int .i64 (.ofNat 7), .rng .i64 (.ofNat 1) (.ofNat 100), .rng .i64 (.ofNat 1) (.ofNat 10000)]], .bool true),
  (3, [.agg [.rng .i64 (.negSucc 9223372036854775807) (.negSucc 0), .int .i64 (.ofNat 8), .rng .i64 (.negSucc 9223372036854775807) (.ofNat 9223372036854775807), .rng .i64 (.negSucc 9223372036854775807) (.ofNat 9223372036854775807)]], .bool true),
  (3, [.agg [.rng .i64 (.ofNat 8) (.ofNat 9223372036854775807), .int .i64 (.ofNat 8), .rng .i64 (.negSucc 9223372036854775807) (.ofNat 9223372036854775807), .rng .i64 (.negSucc 9223372036854775807) (.ofNat 9223372036854775807)]], .bool true)]
theorem LZ_26ok : okL Tryz.prog (kn T8) 4000 gl LZ_26 = true := by kernel_rfl
theorem LZ_26f : AllF Tryz.prog (gOf gl) LZ_26 := facts_of_ok nc_mixed gl_len gl_flat (nc_known T8ok) LZ_26ok
noncomputable def LZ_27 : List Ent := [(3, [.agg [.rng .i64 (.ofNat 0) (.ofNat 7), .int .i64 (.ofNat 8), .rng .i64 (.negSucc 9223372036854775807) (.ofNat 0), .rng .i64 (.negSucc 9223372036854775807) (.ofNat 9223372036854775807)]], .bool true),
  (3, [.agg [.rng .i64 (.ofNat 0) (.ofNat 7), .int .i64 (.ofNat 8), .rng .i64 (.ofNat 101) (.ofNat 9223372036854775807), .rng .i64 (.negSucc 9223372036854775807) (.ofNat 9223372036854775807)]], .bool true),
  (3, [.agg [.rng .i64 (.ofNat 0) (.ofNat 7), .int .i64 (.ofNat 8), .rng .i64 (.ofNat 1) (.ofNat 100), .rng .i64 (.negSucc 9223372036854775807) (.ofNat 0)]], .bool true),
  (3, [.agg [.rng .i64 (.ofNat 0) (.ofNat 7), .int .i64 (.ofNat 8), .rng .i64 (.ofNat 1) (.ofNat 100), .rng .i64 (.ofNat 10001) (.ofNat 9223372036854775807)]], .bool true)]
theorem LZ_27ok : okL Tryz.prog (kn T8) 4000 gl LZ_27 = true := by kernel_rfl
theorem LZ_27f : AllF Tryz.prog (gOf gl) LZ_27 := facts_of_ok nc_mixed gl_len gl_flat (nc_known T8ok) LZ_27ok
noncomputable def LZ_28 : List Ent := [(3, [.agg [.int .i64 (.ofNat 0), .int .i64 (.ofNat 8), .rng .i64 (.ofNat 1) (.ofNat 100), .rng .i64 (.ofNat 1) (.ofNat 10000)]], .bool true)]
theorem LZ_28ok : okL Tryz.prog (kn T8) 4000 gl LZ_28 = true := by kernel_rfl
theorem LZ_28f : AllF Tryz.prog (gOf gl) LZ_28 := facts_of_ok nc_mixed gl_len gl_flat (nc_known T8ok) LZ_28ok
noncomputable def LZ_29 : List Ent := [(3, [.agg [.int .i64 (.ofNat 1), .int .i64 (.ofNat 8), .rng .i64 (.ofNat 1) (.ofNat 100), .rng .i64 (.ofNat 1) (.ofNat 10000)]], .bool true)]
theorem LZ_29ok : okL Tryz.prog (kn T8) 4000 gl LZ_29 = true := by kernel_rfl
theorem LZ_29f : AllF Tryz.prog (gOf gl) LZ_29 := facts_of_ok nc_mixed gl_len gl_flat (nc_known T8ok) LZ_29ok
end Go.Ev
