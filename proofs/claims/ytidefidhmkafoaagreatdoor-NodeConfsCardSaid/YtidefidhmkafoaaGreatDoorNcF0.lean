/- Calls that were run, part 1: by program. -/
import Derived.Test.YtidefidhmkafoaaGreatDoorNcK
set_option linter.unusedSimpArgs false
set_option linter.unusedVariables false
namespace Go.Ev
open Go Go.Proofs
set_option maxRecDepth 100000
noncomputable def L1_0 : List Ent := [(157, [.str [100,3,101,110,118] 5], .tup [.int .i64 (.ofNat 5), .int .i64 (.ofNat 0)]),
  (157, [.str [114,1,100,5,104,101,108,108,111] 9], .tup [.int .i64 (.ofNat 9), .int .i64 (.ofNat 0)]),
  (157, [.str [100,1,7] 3], .tup [.int .i64 (.ofNat 3), .int .i64 (.ofNat 0)]),
  (157, [.str [100,1,0] 3], .tup [.int .i64 (.ofNat 3), .int .i64 (.ofNat 0)]),
  (237, [.str [107,47,48,47,55] 5], .bool true),
  (157, [.str [100,1,1] 3], .tup [.int .i64 (.ofNat 3), .int .i64 (.ofNat 0)]),
  (237, [.str [107,47,50,47,53] 5], .bool true),
  (157, [.str [100,1,5] 3], .tup [.int .i64 (.ofNat 3), .int .i64 (.ofNat 0)]),
  (157, [.str [100,1,2] 3], .tup [.int .i64 (.ofNat 3), .int .i64 (.ofNat 0)]),
  (237, [.str [107,47,53,47,55] 5], .bool true),
  (237, [.str [107,47,49,47,51] 5], .bool true),
  (157, [.str [114,7,100,3,101,110,118,100,1,3,100,1,1,100,1,1,100,1,1,100,1,1,114,1,100,5,104,101,108,108,111] 31], .tup [.int .i64 (.ofNat 31), .int .i64 (.ofNat 0)]),
  (157, [.str [114,7,100,3,101,110,118,100,1,6,100,1,0,100,1,1,100,1,1,100,1,1,114,1,100,5,104,101,108,108,111] 31], .tup [.int .i64 (.ofNat 31), .int .i64 (.ofNat 0)]),
  (157, [.str [114,7,100,3,101,110,118,100,1,6,100,1,1,100,1,1,100,1,1,100,1,1,114,1,100,5,104,101,108,108,111] 31], .tup [.int .i64 (.ofNat 31), .int .i64 (.ofNat 0)]),
  (157, [.str [100,1,6] 3], .tup [.int .i64 (.ofNat 3), .int .i64 (.ofNat 0)])]
theorem L1_0ok : okL Tryz.prog (kn .e) 4000 gl L1_0 = true := by kernel_rfl
theorem L1_0f : AllF Tryz.prog (gOf gl) L1_0 := facts_of_ok nc_mixed gl_len gl_flat (nc_known TabOk.e) L1_0ok
noncomputable def L1_1 : List Ent := [(237, [.str [107,47,48,47,51] 5], .bool true),
  (237, [.str [107,47,49,47,55] 5], .bool true),
  (157, [.str [100,1,4] 3], .tup [.int .i64 (.ofNat 3), .int .i64 (.ofNat 0)]),
  (157, [.str [114,7,100,3,101,110,118,100,1,1,100,1,4,100,1,1,100,1,1,100,1,1,114,1,100,5,104,101,108,108,111] 31], .tup [.int .i64 (.ofNat 31), .int .i64 (.ofNat 0)]),
  (157, [.str [114,7,100,3,101,110,118,100,1,3,100,1,6,100,1,1,100,1,1,100,1,1,114,1,100,5,104,101,108,108,111] 31], .tup [.int .i64 (.ofNat 31), .int .i64 (.ofNat 0)]),
  (157, [.str [100,1,3] 3], .tup [.int .i64 (.ofNat 3), .int .i64 (.ofNat 0)]),
  (157, [.str [114,7,100,3,101,110,118,100,1,2,100,1,5,100,1,1,100,1,1,100,1,1,114,1,100,5,104,101,108,108,111] 31], .tup [.int .i64 (.ofNat 31), .int .i64 (.ofNat 0)]),
  (157, [.str [114,7,100,3,101,110,118,100,1,1,100,1,3,100,1,1,100,1,1,100,1,1,114,1,100,5,104,101,108,108,111] 31], .tup [.int .i64 (.ofNat 31), .int .i64 (.ofNat 0)])]
theorem L1_1ok : okL Tryz.prog (kn .e) 4000 gl L1_1 = true := by kernel_rfl
theorem L1_1f : AllF Tryz.prog (gOf gl) L1_1 := facts_of_ok nc_mixed gl_len gl_flat (nc_known TabOk.e) L1_1ok
noncomputable def L1_2 : List Ent := [(157, [.str [114,7,100,3,101,110,118,100,1,5,100,1,6,100,1,1,100,1,1,100,1,1,114,1,100,5,104,101,108,108,111] 31], .tup [.int .i64 (.ofNat 31), .int .i64 (.ofNat 0)]),
  (237, [.str [107,47,50,47,51] 5], .bool true),
  (157, [.str [114,7,100,3,101,110,118,100,1,4,100,1,5,100,1,1,100,1,1,100,1,1,114,1,100,5,104,101,108,108,111] 31], .tup [.int .i64 (.ofNat 31), .int .i64 (.ofNat 0)]),
  (157, [.str [114,7,100,3,101,110,118,100,1,7,100,1,4,100,1,1,100,1,1,100,1,1,114,1,100,5,104,101,108,108,111] 31], .tup [.int .i64 (.ofNat 31), .int .i64 (.ofNat 0)]),
  (237, [.str [107,47,48,47,53] 5], .bool true),
  (157, [.str [114,7,100,3,101,110,118,100,1,5,100,1,0,100,1,1,100,1,1,100,1,1,114,1,100,5,104,101,108,108,111] 31], .tup [.int .i64 (.ofNat 31), .int .i64 (.ofNat 0)]),
  (237, [.str [107,47,48,47,49] 5], .bool true)]
theorem L1_2ok : okL Tryz.prog (kn .e) 4000 gl L1_2 = true := by kernel_rfl
theorem L1_2f : AllF Tryz.prog (gOf gl) L1_2 := facts_of_ok nc_mixed gl_len gl_flat (nc_known TabOk.e) L1_2ok
noncomputable def L1_3 : List Ent := [(157, [.str [114,7,100,3,101,110,118,100,1,6,100,1,5,100,1,1,100,1,1,100,1,1,114,1,100,5,104,101,108,108,111] 31], .tup [.int .i64 (.ofNat 31), .int .i64 (.ofNat 0)]),
  (237, [.str [107,47,49,47,54] 5], .bool true),
  (237, [.str [107,47,51,47,55] 5], .bool true),
  (237, [.str [107,47,54,47,55] 5], .bool true),
  (157, [.str [114,7,100,3,101,110,118,100,1,7,100,1,1,100,1,1,100,1,1,100,1,1,114,1,100,5,104,101,108,108,111] 31], .tup [.int .i64 (.ofNat 31), .int .i64 (.ofNat 0)]),
  (237, [.str [107,47,50,47,54] 5], .bool true),
  (157, [.str [114,7,100,3,101,110,118,100,1,4,100,1,0,100,1,1,100,1,1,100,1,1,114,1,100,5,104,101,108,108,111] 31], .tup [.int .i64 (.ofNat 31), .int .i64 (.ofNat 0)]),
  (237, [.str [107,47,49,47,50] 5], .bool true),
  (237, [.str [107,47,52,47,54] 5], .bool true)]
theorem L1_3ok : okL Tryz.prog (kn .e) 4000 gl L1_3 = true := by kernel_rfl
theorem L1_3f : AllF Tryz.prog (gOf gl) L1_3 := facts_of_ok nc_mixed gl_len gl_flat (nc_known TabOk.e) L1_3ok
noncomputable def L1_4 : List Ent := [(157, [.str [114,7,100,3,101,110,118,100,1,0,100,1,1,100,1,1,100,1,1,100,1,1,114,1,100,5,104,101,108,108,111] 31], .tup [.int .i64 (.ofNat 31), .int .i64 (.ofNat 0)]),
  (237, [.str [107,47,52,47,55] 5], .bool true)]
theorem L1_4ok : okL Tryz.prog (kn .e) 4000 gl L1_4 = true := by kernel_rfl
theorem L1_4f : AllF Tryz.prog (gOf gl) L1_4 := facts_of_ok nc_mixed gl_len gl_flat (nc_known TabOk.e) L1_4ok
noncomputable def L1_5 : List Ent := [(120, [.agg [.int .u8 (.ofNat 0), .int .u8 (.ofNat 0), .int .u8 (.ofNat 0), .int .u8 (.ofNat 0), .int .u8 (.ofNat 0), .int .u8 (.ofNat 0), .int .u8 (.ofNat 0), .int .u8 (.ofNat 0), .int .u8 (.ofNat 0), .int .u8 (.ofNat 0), .int .u8 (.ofNat 0), .int .u8 (.ofNat 0), .int .u8 (.ofNat 0), .int .u8 (.ofNat 0), .int .u8 (.ofNat 0), .int .u8 (.ofNat 0), .int .u8 (.ofNat 0), .int .u8 (.ofNat 0), .int .u8 (.ofNat 0), .int .u8 (.ofNat 0), .int .u8 (.ofNat 0), .int .u8 (.ofNat 0), .int .u8 (.ofNat 0), .int .u8 (.ofNat 0), .int .u8 (.ofNat 0), .int .u8 (.ofNat 0), .int .u8 (.ofNat 0), .int .u8 (.ofNat 0), .int .u8 (.ofNat 0), .int .u8 (.ofNat 0), .int .u8 (.ofNat 0), .int .u8 (.ofNat 0)], .str [1,1] 2], .agg [.int .u8 (.ofNat 5), .int .u8 (.ofNat 144), .int .u8 (.ofNat 128), .int .u8 (.ofNat 5), .int .u8 (.ofNat 5), .int .u8 (.ofNat 243), .int .u8 (.ofNat 105), .int .u8 (.ofNat 247), .int .u8 (.ofNat 98), .int .u8 (.ofNat 4), .int .u8 (.ofNat 214), .int .u8 (.ofNat 52), .int .u8 (.ofNat 32), .int .u8 (.ofNat 144), .int .u8 (.ofNat 238), .int .u8 (.ofNat 242), .int .u8 (.ofNat 130), .int .u8 (.ofNat 92), .int .u8 (.ofNat 93), .int .u8 (.ofNat 121), .int .u8 (.ofNat 206), .int .u8 (.ofNat 115), .int .u8 (.ofNat 0), .int .u8 (.ofNat 39), .int .u8 (.ofNat 20), .int .u8 (.ofNat 113), .int .u8 (.ofNat 170), .int .u8 (.ofNat 11), .int .u8 (.ofNat 174), .int .u8 (.ofNat 241), .int .u8 (.ofNat 82), .int .u8 (.ofNat 72)])]
theorem L1_5ok : okL Tryz.prog (kn .e) 4000 gl L1_5 = true := by kernel_rfl
theorem L1_5f : AllF Tryz.prog (gOf gl) L1_5 := facts_of_ok nc_mixed gl_len gl_flat (nc_known TabOk.e) L1_5ok
noncomputable def L1_6 : List Ent := [(157, [.str [114,7,100,3,101,110,118,100,1,2,100,1,4,100,1,1,100,1,1,100,1,1,114,1,100,5,104,101,108,108,111] 31], .tup [.int .i64 (.ofNat 31), .int .i64 (.ofNat 0)]),
  (237, [.str [107,47,50,47,52] 5], .bool true),
  (157, [.str [114,7,100,3,101,110,118,100,1,4,100,1,6,100,1,1,100,1,1,100,1,1,114,1,100,5,104,101,108,108,111] 31], .tup [.int .i64 (.ofNat 31), .int .i64 (.ofNat 0)]),
  (157, [.str [114,7,100,3,101,110,118,100,1,2,100,1,6,100,1,1,100,1,1,100,1,1,114,1,100,5,104,101,108,108,111] 31], .tup [.int .i64 (.ofNat 31), .int .i64 (.ofNat 0)]),
  (237, [.str [107,47,49,47,52] 5], .bool true),
  (157, [.str [114,7,100,3,101,110,118,100,1,5,100,1,2,100,1,1,100,1,1,100,1,1,114,1,100,5,104,101,108,108,111] 31], .tup [.int .i64 (.ofNat 31), .int .i64 (.ofNat 0)])]
theorem L1_6ok : okL Tryz.prog (kn .e) 4000 gl L1_6 = true := by kernel_rfl
theorem L1_6f : AllF Tryz.prog (gOf gl) L1_6 := facts_of_ok nc_mixed gl_len gl_flat (nc_known TabOk.e) L1_6ok
noncomputable def L1_7 : List Ent := [(157, [.str [114,7,100,3,101,110,118,100,1,1,100,1,0,100,1,1,100,1,1,100,1,1,114,1,100,5,104,101,108,108,111] 31], .tup [.int .i64 (.ofNat 31), .int .i64 (.ofNat 0)]),
  (237, [.str [107,47,51,47,54] 5], .bool true),
  (237, [.str [107,47,51,47,53] 5], .bool true),
  (157, [.str [114,7,100,3,101,110,118,100,1,5,100,1,3,100,1,1,100,1,1,100,1,1,114,1,100,5,104,101,108,108,111] 31], .tup [.int .i64 (.ofNat 31), .int .i64 (.ofNat 0)]),
  (157, [.str [114,7,100,3,101,110,118,100,1,6,100,1,4,100,1,1,100,1,1,100,1,1,114,1,100,5,104,101,108,108,111] 31], .tup [.int .i64 (.ofNat 31), .int .i64 (.ofNat 0)]),
  (157, [.str [114,7,100,3,101,110,118,100,1,4,100,1,3,100,1,1,100,1,1,100,1,1,114,1,100,5,104,101,108,108,111] 31], .tup [.int .i64 (.ofNat 31), .int .i64 (.ofNat 0)])]
theorem L1_7ok : okL Tryz.prog (kn .e) 4000 gl L1_7 = true := by kernel_rfl
theorem L1_7f : AllF Tryz.prog (gOf gl) L1_7 := facts_of_ok nc_mixed gl_len gl_flat (nc_known TabOk.e) L1_7ok
noncomputable def L1_8 : List Ent := [(157, [.str [114,7,100,3,101,110,118,100,1,7,100,1,5,100,1,1,100,1,1,100,1,1,114,1,100,5,104,101,108,108,111] 31], .tup [.int .i64 (.ofNat 31), .int .i64 (.ofNat 0)]),
  (157, [.str [114,7,100,3,101,110,118,100,1,4,100,1,7,100,1,1,100,1,1,100,1,1,114,1,100,5,104,101,108,108,111] 31], .tup [.int .i64 (.ofNat 31), .int .i64 (.ofNat 0)]),
  (157, [.str [114,7,100,3,101,110,118,100,1,5,100,1,4,100,1,1,100,1,1,100,1,1,114,1,100,5,104,101,108,108,111] 31], .tup [.int .i64 (.ofNat 31), .int .i64 (.ofNat 0)]),
  (237, [.str [107,47,53,47,54] 5], .bool true),
  (157, [.str [114,7,100,3,101,110,118,100,1,3,100,1,7,100,1,1,100,1,1,100,1,1,114,1,100,5,104,101,108,108,111] 31], .tup [.int .i64 (.ofNat 31), .int .i64 (.ofNat 0)])]
theorem L1_8ok : okL Tryz.prog (kn .e) 4000 gl L1_8 = true := by kernel_rfl
theorem L1_8f : AllF Tryz.prog (gOf gl) L1_8 := facts_of_ok nc_mixed gl_len gl_flat (nc_known TabOk.e) L1_8ok
noncomputable def L1_9 : List Ent := [(157, [.str [114,7,100,3,101,110,118,100,1,1,100,1,5,100,1,1,100,1,1,100,1,1,114,1,100,5,104,101,108,108,111] 31], .tup [.int .i64 (.ofNat 31), .int .i64 (.ofNat 0)]),
  (157, [.str [114,7,100,3,101,110,118,100,1,6,100,1,3,100,1,1,100,1,1,100,1,1,114,1,100,5,104,101,108,108,111] 31], .tup [.int .i64 (.ofNat 31), .int .i64 (.ofNat 0)]),
  (157, [.str [114,7,100,3,101,110,118,100,1,3,100,1,4,100,1,1,100,1,1,100,1,1,114,1,100,5,104,101,108,108,111] 31], .tup [.int .i64 (.ofNat 31), .int .i64 (.ofNat 0)]),
  (157, [.str [114,7,100,3,101,110,118,100,1,6,100,1,2,100,1,1,100,1,1,100,1,1,114,1,100,5,104,101,108,108,111] 31], .tup [.int .i64 (.ofNat 31), .int .i64 (.ofNat 0)]),
  (237, [.str [107,47,50,47,55] 5], .bool true),
  (237, [.str [107,47,48,47,50] 5], .bool true)]
theorem L1_9ok : okL Tryz.prog (kn .e) 4000 gl L1_9 = true := by kernel_rfl
theorem L1_9f : AllF Tryz.prog (gOf gl) L1_9 := facts_of_ok nc_mixed gl_len gl_flat (nc_known TabOk.e) L1_9ok
end Go.Ev
