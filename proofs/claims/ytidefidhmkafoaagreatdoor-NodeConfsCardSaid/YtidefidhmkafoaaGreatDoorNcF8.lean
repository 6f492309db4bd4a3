/- Calls that were run, part 9: by program. -/
import Derived.Test.YtidefidhmkafoaaGreatDoorNcF7
set_option linter.unusedSimpArgs false
set_option linter.unusedVariables false
namespace Go.Ev
open Go Go.Proofs
set_option maxRecDepth 100000
noncomputable def LZ_0 : List Ent := [(3, [.agg [.rng .i64 (.negSucc 9223372036854775807) (.ofNat 9223372036854775807), .rng .i64 (.negSucc 9223372036854775807) (.ofNat 0), .rng .i64 (.negSucc 9223372036854775807) (.ofNat 9223372036854775807), .rng .i64 (.negSucc 9223372036854775807) (.ofNat 9223372036854775807)]], .bool true),
  (3, [.agg [.rng .i64 (.negSucc 9223372036854775807) (.ofNat 9223372036854775807), .rng .i64 (.ofNat 9) (.ofNat 9223372036854775807), .rng .i64 (.negSucc 9223372036854775807) (.ofNat 9223372036854775807), .rng .i64 (.negSucc 9223372036854775807) (.ofNat 9223372036854775807)]], .bool true),
  (3, [.agg [.rng .i64 (.negSucc 9223372036854775807) (.negSucc 0), .int .i64 (.ofNat 1), .rng .i64 (.negSucc 9223372036854775807) (.ofNat 9223372036854775807), .rng .i64 (.negSucc 9223372036854775807) (.ofNat 9223372036854775807)]], .bool true),
  (3, [.agg [.rng .i64 (.ofNat 1) (.ofNat 9223372036854775807), .int .i64 (.ofNat 1), .rng .i64 (.negSucc 9223372036854775807) (.ofNat 9223372036854775807), .rng .i64 (.negSucc 9223372036854775807) (.ofNat 9223372036854775807)]], .bool true),
  (3, [.agg [.rng .i64 (.ofNat 0) (.ofNat 0), .int .i64 (.ofNat 1), .rng .i64 (.negSucc 9223372036854775807) (.ofNat 0), .rng .i64 (.negSucc 9223372036854775807) (.ofNat 9223372036854775807)]], .bool true),
  (3, [.agg [.rng .i64 (.ofNat 0) (.ofNat 0), .int .i64 (.ofNat 1), .rng .i64 (.ofNat 101) (.ofNat 9223372036854775807), .rng .i64 (.negSucc 9223372036854775807) (.ofNat 9223372036854775807)]], .bool true),
  (3, [.agg [.rng .i64 (.ofNat 0) (.ofNat 0), .int .i64 (.ofNat 1), .rng .i64 (.ofNat 1) (.ofNat 100), .rng .i64 (.negSucc 9223372036854775807) (.ofNat 0)]], .bool true)]
theorem LZ_0ok : okL Tryz.prog (kn T8) 4000 gl LZ_0 = true := by kernel_rfl
theorem LZ_0f : AllF Tryz.prog (gOf gl) LZ_0 := facts_of_ok nc_mixed gl_len gl_flat (nc_known T8ok) LZ_0ok
noncomputable def LZ_1 : List Ent := [(3, [.agg [.rng .i64 (.ofNat 0) (.ofNat 0), .int .i64 (.ofNat 1), .rng .i64 (.ofNat 1) (.ofNat 100), .rng .i64 (.ofNat 10001) (.ofNat 9223372036854775807)]], .bool true),
  (3, [.agg [.int .i64 (.ofNat 0), .int .i64 (.ofNat 1), .rng .i64 (.ofNat 1) (.ofNat 100), .rng .i64 (.ofNat 1) (.ofNat 10000)]], .bool true),
  (3, [.agg [.rng .i64 (.negSucc 9223372036854775807) (.negSucc 0), .int .i64 (.ofNat 2), .rng .i64 (.negSucc 9223372036854775807) (.ofNat 9223372036854775807), .rng .i64 (.negSucc 9223372036854775807) (.ofNat 9223372036854775807)]], .bool true),
  (3, [.agg [.rng .i64 (.ofNat 2) (.ofNat 9223372036854775807), .int .i64 (.ofNat 2), .rng .i64 (.negSucc 9223372036854775807) (.ofNat 9223372036854775807), .rng .i64 (.negSucc 9223372036854775807) (.ofNat 9223372036854775807)]], .bool true),
  (3, [.agg [.rng .i64 (.ofNat 0) (.ofNat 1), .int .i64 (.ofNat 2), .rng .i64 (.negSucc 9223372036854775807) (.ofNat 0), .rng .i64 (.negSucc 9223372036854775807) (.ofNat 9223372036854775807)]], .bool true),
  (3, [.agg [.rng .i64 (.ofNat 0) (.ofNat 1), .int .i64 (.ofNat 2), .rng .i64 (.ofNat 101) (.ofNat 9223372036854775807), .rng .i64 (.negSucc 9223372036854775807) (.ofNat 9223372036854775807)]], .bool true)]
theorem LZ_1ok : okL Tryz.prog (kn T8) 4000 gl LZ_1 = true := by kernel_rfl
theorem LZ_1f : AllF Tryz.prog (gOf gl) LZ_1 := facts_of_ok nc_mixed gl_len gl_flat (nc_known T8ok) LZ_1ok
noncomputable def LZ_2 : List Ent := [(3, [.agg [.rng .i64 (.ofNat 0) (.ofNat 1), .int .i64 (.ofNat 2), .rng .i64 (.ofNat 1) (.ofNat 100), .rng .i64 (.negSucc 9223372036854775807) (.ofNat 0)]], .bool true),
  (3, [.agg [.rng .i64 (.ofNat 0) (.ofNat 1), .int .i64 (.ofNat 2), .rng .i64 (.ofNat 1) (.ofNat 100), .rng .i64 (.ofNat 10001) (.ofNat 9223372036854775807)]], .bool true),
  (3, [.agg [.int .i64 (.ofNat 0), .int .i64 (.ofNat 2), .rng .i64 (.ofNat 1) (.ofNat 100), .rng .i64 (.ofNat 1) (.ofNat 10000)]], .bool true),
  (3, [.agg [.int .i64 (.ofNat 1), .int .i64 (.ofNat 2), .rng .i64 (.ofNat 1) (.ofNat 100), .rng .i64 (.ofNat 1) (.ofNat 10000)]], .bool true),
  (3, [.agg [.rng .i64 (.negSucc 9223372036854775807) (.negSucc 0), .int .i64 (.ofNat 3), .rng .i64 (.negSucc 9223372036854775807) (.ofNat 9223372036854775807), .rng .i64 (.negSucc 9223372036854775807) (.ofNat 9223372036854775807)]], .bool true)]
theorem LZ_2ok : okL Tryz.prog (kn T8) 4000 gl LZ_2 = true := by kernel_rfl
theorem LZ_2f : AllF Tryz.prog (gOf gl) LZ_2 := facts_of_ok nc_mixed gl_len gl_flat (nc_known T8ok) LZ_2ok
noncomputable def LZ_3 : List Ent := [(3, [.agg [.rng .i64 (.ofNat 3) (.ofNat 9223372036854775807), .int .i64 (.ofNat 3), .rng .i64 (.negSucc 9223372036854775807) (.ofNat 9223372036854775807), .rng .i64 (.negSucc 9223372036854775807) (.ofNat 9223372036854775807)]], .bool true),
  (3, [.agg [.rng .i64 (.ofNat 0) (.ofNat 2), .int .i64 (.ofNat 3), .rng .i64 (.negSucc 9223372036854775807) (.ofNat 0), .rng .i64 (.negSucc 9223372036854775807) (.ofNat 9223372036854775807)]], .bool true),
  (3, [.agg [.rng .i64 (.ofNat 0) (.ofNat 2), .int .i64 (.ofNat 3), .rng .i64 (.ofNat 101) (.ofNat 9223372036854775807), .rng .i64 (.negSucc 9223372036854775807) (.ofNat 9223372036854775807)]], .bool true),
  (3, [.agg [.rng .i64 (.ofNat 0) (.ofNat 2), .int .i64 (.ofNat 3), .rng .i64 (.ofNat 1) (.ofNat 100), .rng .i64 (.negSucc 9223372036854775807) (.ofNat 0)]], .bool true),
  (3, [.agg [.rng .i64 (.ofNat 0) (.ofNat 2), .int .i64 (.ofNat 3), .rng .i64 (.ofNat 1) (.ofNat 100), .rng .i64 (.ofNat 10001) (.ofNat 9223372036854775807)]], .bool true)]
theorem LZ_3ok : okL Tryz.prog (kn T8) 4000 gl LZ_3 = true := by kernel_rfl
theorem LZ_3f : AllF Tryz.prog (gOf gl) LZ_3 := facts_of_ok nc_mixed gl_len gl_flat (nc_known T8ok) LZ_3ok
noncomputable def LZ_4 : List Ent := [(3, [.agg [.int .i64 (.ofNat 0), .int .i64 (.ofNat 3), .rng .i64 (.ofNat 1) (.ofNat 100), .rng .i64 (.ofNat 1) (.ofNat 10000)]], .bool true),
  (3, [.agg [.int .i64 (.ofNat 1), .int .i64 (.ofNat 3), .rng .i64 (.ofNat 1) (.ofNat 100), .rng .i64 (.ofNat 1) (.ofNat 10000)]], .bool true)]
theorem LZ_4ok : okL Tryz.prog (kn T8) 4000 gl LZ_4 = true := by kernel_rfl
theorem LZ_4f : AllF Tryz.prog (gOf gl) LZ_4 := facts_of_ok nc_mixed gl_len gl_flat (nc_known T8ok) LZ_4ok
noncomputable def LZ_5 : List Ent := [(3, [.agg [.int .i64 (.ofNat 2), .int .i64 (.ofNat 3), .rng .i64 (.ofNat 1) (.ofNat 100), .rng .i64 (.ofNat 1) (.ofNat 10000)]], .bool true),
  (3, [.agg [.rng .i64 (.negSucc 9223372036854775807) (.negSucc 0), .int .i64 (.ofNat 4), .rng .i64 (.negSucc 9223372036854775807) (.ofNat 9223372036854775807), .rng .i64 (.negSucc 9223372036854775807) (.ofNat 9223372036854775807)]], .bool true),
  (3, [.agg [.rng .i64 (.ofNat 4) (.ofNat 9223372036854775807), .int .i64 (.ofNat 4), .rng .i64 (.negSucc 9223372036854775807) (.ofNat 9223372036854775807), .rng .i64 (.negSucc 9223372036854775807) (.ofNat 9223372036854775807)]], .bool true),
  (3, [.agg [.rng .i64 (.ofNat 0) (.ofNat 3), .int .i64 (.ofNat 4), .rng .i64 (.negSucc 9223372036854775807) (.ofNat 0), .rng .i64 (.negSucc 9223372036854775807) (.ofNat 9223372036854775807)]], .bool true),
  (3, [.agg [.rng .i64 (.ofNat 0) (.ofNat 3), .int .i64 (.ofNat 4), .rng .i64 (.ofNat 101) (.ofNat 9223372036854775807), .rng .i64 (.negSucc 9223372036854775807) (.ofNat 9223372036854775807)]], .bool true)]
theorem LZ_5ok : okL Tryz.prog (kn T8) 4000 gl LZ_5 = true := by kernel_rfl
theorem LZ_5f : AllF Tryz.prog (gOf gl) LZ_5 := facts_of_ok nc_mixed gl_len gl_flat (nc_known T8ok) LZ_5ok
noncomputable def LZ_6 : List Ent := [(3, [.agg [.rng .i64 (.ofNat 0) (.ofNat 3), .int .i64 (.ofNat 4), .rng .i64 (.ofNat 1) (.ofNat 100), .rng .i64 (.negSucc 9223372036854775807) (.ofNat 0)]], .bool true),
  (3, [.agg [.rng .i64 (.ofNat 0) (.ofNat 3), .int .i64 (.ofNat 4), .rng .i64 (.ofNat 1) (.ofNat 100), .rng .i64 (.ofNat 10001) (.ofNat 9223372036854775807)]], .bool true),
  (3, [.agg [.int .i64 (.ofNat 0), .int .i64 (.ofNat 4), .rng .i64 (.ofNat 1) (.ofNat 100), .rng .i64 (.ofNat 1) (.ofNat 10000)]], .bool true)]
theorem LZ_6ok : okL Tryz.prog (kn T8) 4000 gl LZ_6 = true := by kernel_rfl
theorem LZ_6f : AllF Tryz.prog (gOf gl) LZ_6 := facts_of_ok nc_mixed gl_len gl_flat (nc_known T8ok) LZ_6ok
noncomputable def LZ_7 : List Ent := [(3, [.agg [.int .i64 (.ofNat 1), .int .i64 (.ofNat 4), .rng .i64 (.ofNat 1) (.ofNat 100), .rng .i64 (.ofNat 1) (.ofNat 10000)]], .bool true),
  (3, [.agg [.int .i64 (.ofNat 2), .int .i64 (.ofNat 4), .rng .i64 (.ofNat 1) (.ofNat 100), .rng .i64 (.ofNat 1) (.ofNat 10000)]], .bool true)]
theorem LZ_7ok : okL Tryz.prog (kn T8) 4000 gl LZ_7 = true := by kernel_rfl
theorem LZ_7f : AllF Tryz.prog (gOf gl) LZ_7 := facts_of_ok nc_mixed gl_len gl_flat (nc_known T8ok) LZ_7ok
noncomputable def LZ_8 : List Ent := [(3, [.agg [.int .i64 (.ofNat 3), .int .i64 (.ofNat 4), .rng .i64 (.ofNat 1) (.ofNat 100), .rng .i64 (.ofNat 1) (.ofNat 10000)]], .bool true),
  (3, [.agg [.rng .i64 (.negSucc 9223372036854775807) (.negSucc 0), .int .i64 (.ofNat 5), .rng .i64 (.negSucc 9223372036854775807) (.ofNat 9223372036854775807), .rng .i64 (.negSucc 9223372036854775807) (.ofNat 9223372036854775807)]], .bool true),
  (3, [.agg [.rng .i64 (.ofNat 5) (.ofNat 9223372036854775807), .int .i64 (.ofNat 5), .rng .i64 (.negSucc 9223372036854775807) (.ofNat 9223372036854775807), .rng .i64 (.negSucc 9223372036854775807) (.ofNat 9223372036854775807)]], .bool true),
  (3, [.agg [.rng .i64 (.ofNat 0) (.ofNat 4), .int .i64 (.ofNat 5), .rng .i64 (.negSucc 9223372036854775807) (.ofNat 0), .rng .i64 (.negSucc 9223372036854775807) (.ofNat 9223372036854775807)]], .bool true),
  (3, [.agg [.rng .i64 (.ofNat 0) (.ofNat 4), .int .i64 (.ofNat 5), .rng .i64 (.ofNat 101) (.ofNat 9223372036854775807), .rng .i64 (.negSucc 9223372036854775807) (.ofNat 9223372036854775807)]], .bool true)]
theorem LZ_8ok : okL Tryz.prog (kn T8) 4000 gl LZ_8 = true := by kernel_rfl
theorem LZ_8f : AllF Tryz.prog (gOf gl) LZ_8 := facts_of_ok nc_mixed gl_len gl_flat (nc_known T8ok) LZ_8ok
noncomputable def LZ_9 : List Ent := [(3, [.agg [.rng .i64 (.ofNat 0) (.ofNat 4), .int .i64 (.ofNat 5), .rng .i64 (.ofNat 1) (.ofNat 100), .rng .i64 (.negSucc 9223372036854775807) (.ofNat 0)]], .bool true),
  (3, [.agg [.rng .i64 (.ofNat 0) (.ofNat 4), .int .i64 (.ofNat 5), .rng .i64 (.ofNat 1) (.ofNat 100), .rng .i64 (.ofNat 10001) (.ofNat 9223372036854775807)]], .bool true),
  (3, [.agg [.int .i64 (.ofNat 0), .int .i64 (.ofNat 5), .rng .i64 (.ofNat 1) (.ofNat 100), .rng .i64 (.ofNat 1) (.ofNat 10000)]], .bool true)]
theorem LZ_9ok : okL Tryz.prog (kn T8) 4000 gl LZ_9 = true := by kernel_rfl
theorem LZ_9f : AllF Tryz.prog (gOf gl) LZ_9 := facts_of_ok nc_mixed gl_len gl_flat (nc_known T8ok) LZ_9ok
noncomputable def LZ_10 : List Ent := [(3, [.agg [.int .i64 (.ofNat 1), .int .i64 (.ofNat 5), .rng .i64 (.ofNat 1) (.ofNat 100), .rng .i64 (.ofNat 1) (.ofNat 10000)]], .bool true),
  (3, [.agg [.int .i64 (.ofNat 2), .int .i64 (.ofNat 5), .rng .i64 (.ofNat 1) (.ofNat 100), .rng .i64 (.ofNat 1) (.ofNat 10000)]], .bool true)]
theorem LZ_10ok : okL Tryz.prog (kn T8) 4000 gl LZ_10 = true := by kernel_rfl
theorem LZ_10f : AllF Tryz.prog (gOf gl) LZ_10 := facts_of_ok nc_mixed gl_len gl_flat (nc_known T8ok) LZ_10ok
noncomputable def LZ_11 : List Ent := [(3, [.agg [.int .i64 (.ofNat 3), .int .i64 (.ofNat 5), .rng .i64 (.ofNat 1) (.ofNat 100), .rng .i64 (.ofNat 1) (.ofNat 10000)]], .bool true),
  (3, [.agg [.int .i64 (.ofNat 4), .int .i64 (.ofNat 5), .rng .i64 (.ofNat 1) (.ofNat 100), .rng .i64 (.ofNat 1) (.ofNat 10000)]], .bool true)]
theorem LZ_11ok : okL Tryz.prog (kn T8) 4000 gl LZ_11 = true := by kernel_rfl
theorem LZ_11f : AllF Tryz.prog (gOf gl) LZ_11 := facts_of_ok nc_mixed gl_len gl_flat (nc_known T8ok) LZ_11ok
noncomputable def LZ_12 : List Ent := [(3, [.agg [.rng .i64 (.negSucc 9223372036854775807) (.negSucc 0), .int .i64 (.ofNat 6), .rng .i64 (.negSucc 9223372036854775807) (.ofNat 9223372036854775807), .rng .i64 (.negSucc 9223372036854775807) (.ofNat 9223372036854775807)]], .bool true),
  (3, [.agg [.rng .i64 (.ofNat 6) (.ofNat 9223372036854775807), .int .i64 (.ofNat 6), .rng .i64 (.negSucc 9223372036854775807) (.ofNat 9223372036854775807), .rng .i64 (.negSucc 9223372036854775807) (.ofNat 9223372036854775807)]], .bool true),
  (3, [.agg [.rng .i64 (.ofNat 0) (.ofNat 5), .int .i64 (.ofNat 6), .rng .i64 (.negSucc 9223372036854775807) (.ofNat 0), .rng .i64 (.negSucc 9223372036854775807) (.ofNat 9223372036854775807)]], .bool true),
  (3, [.agg [.rng .i64 (.ofNat 0) (.ofNat 5), .int .i64 (.ofNat 6), .rng .i64 (.ofNat 101) (.ofNat 9223372036854775807), .rng .i64 (.negSucc 9223372036854775807) (.ofNat 9223372036854775807)]], .bool true),
  (3, [.agg [.rng .i64 (.ofNat 0) (.ofNat 5), .int .i64 (.ofNat 6), .rng .i64 (.ofNat 1) (.ofNat 100), .rng .i64 (.negSucc 9223372036854775807) (.ofNat 0)]], .bool true),
  (3, [.agg [.rng .i64 (.ofNat 0) (.ofNat 5), .int .i64 (.ofNat 6), .rng .i64 (.ofNat 1) (.ofNat 100), .rng .i64 (.ofNat 10001) (.ofNat 9223372036854775807)]], .bool true)]
theorem LZ_12ok : okL Tryz.prog (kn T8) 4000 gl LZ_12 = true := by kernel_rfl
theorem LZ_12f : AllF Tryz.prog (gOf gl) LZ_12 := facts_of_ok nc_mixed gl_len gl_flat (nc_known T8ok) LZ_12ok
noncomputable def LZ_13 : List Ent := [(3, [.agg [.int .i64 (.ofNat 0), .int .i64 (.ofNat 6), .rng .i64 (.ofNat 1) (.ofNat 100), .rng .i64 (.ofNat 1) (.ofNat 10000)]], .bool true)]
theorem LZ_13ok : okL Tryz.prog (kn T8) 4000 gl LZ_13 = true := by kernel_rfl
theorem LZ_13f : AllF Tryz.prog (gOf gl) LZ_13 := facts_of_ok nc_mixed gl_len gl_flat (nc_known T8ok) LZ_13ok
end Go.Ev
