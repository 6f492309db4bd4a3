/- The bound: two texts, one number. -/
import Derived.Test.YtjimkmobdigfiaaGreatDoorProg
import Derived.WalkKit
import Derived.ProofKit
set_option linter.unusedSimpArgs false
set_option linter.unusedVariables false
namespace Go.Ev
open Go Go.Proofs Go.RowKit
set_option maxRecDepth 100000

/-- what both answer -/
def resB (a b n : Int) : Int × Int := if 1 ≤ a ∧ a ≤ 100 ∧ 1 ≤ b ∧ b ≤ 10000 ∧ 1 ≤ n ∧ n ≤ 8 then (wrap64 (b + 8 * a + wrap64 (2 * n * (a + 2))), 0) else (0, 2)
set_option maxHeartbeats 2000000 in
theorem bound4_0 (a b n : Int) (w : World)  (h0 : a < 1) : Calls Tryz.prog 4 #[.agg #[.int .i64 a, .int .i64 b], .int .i64 n] w fun e w' => e = .returned (.tuple #[.int .i64 0, .int .i64 2]) ∧ w' = w.alloc (.cells #[.int .i64 a, .int .i64 b] 23) := by
  go_enter Tryz.func4, Tryz.ntmps4
  go_wp2
  go_ret2
  exact ⟨rfl, rfl⟩
set_option maxHeartbeats 2000000 in
theorem bound4_1 (a b n : Int) (w : World) (h0 : ¬ a < 1) (h1 : 100 < a) : Calls Tryz.prog 4 #[.agg #[.int .i64 a, .int .i64 b], .int .i64 n] w fun e w' => e = .returned (.tuple #[.int .i64 0, .int .i64 2]) ∧ w' = w.alloc (.cells #[.int .i64 a, .int .i64 b] 23) := by
  go_enter Tryz.func4, Tryz.ntmps4
  go_wp2
  go_ret2
  exact ⟨rfl, rfl⟩
set_option maxHeartbeats 2000000 in
theorem bound4_2 (a b n : Int) (w : World) (h0 : ¬ a < 1) (h1 : ¬ 100 < a) (h2 : b < 1) : Calls Tryz.prog 4 #[.agg #[.int .i64 a, .int .i64 b], .int .i64 n] w fun e w' => e = .returned (.tuple #[.int .i64 0, .int .i64 2]) ∧ w' = w.alloc (.cells #[.int .i64 a, .int .i64 b] 23) := by
  go_enter Tryz.func4, Tryz.ntmps4
  go_wp2
  go_ret2
  exact ⟨rfl, rfl⟩
set_option maxHeartbeats 2000000 in
theorem bound4_3 (a b n : Int) (w : World) (h0 : ¬ a < 1) (h1 : ¬ 100 < a) (h2 : ¬ b < 1) (h3 : 10000 < b) : Calls Tryz.prog 4 #[.agg #[.int .i64 a, .int .i64 b], .int .i64 n] w fun e w' => e = .returned (.tuple #[.int .i64 0, .int .i64 2]) ∧ w' = w.alloc (.cells #[.int .i64 a, .int .i64 b] 23) := by
  go_enter Tryz.func4, Tryz.ntmps4
  go_wp2
  go_ret2
  exact ⟨rfl, rfl⟩
set_option maxHeartbeats 2000000 in
theorem bound4_4 (a b n : Int) (w : World) (h0 : ¬ a < 1) (h1 : ¬ 100 < a) (h2 : ¬ b < 1) (h3 : ¬ 10000 < b) (h4 : n < 1) : Calls Tryz.prog 4 #[.agg #[.int .i64 a, .int .i64 b], .int .i64 n] w fun e w' => e = .returned (.tuple #[.int .i64 0, .int .i64 2]) ∧ w' = w.alloc (.cells #[.int .i64 a, .int .i64 b] 23) := by
  go_enter Tryz.func4, Tryz.ntmps4
  go_wp2
  go_ret2
  exact ⟨rfl, rfl⟩
set_option maxHeartbeats 2000000 in
theorem bound4_5 (a b n : Int) (w : World) (h0 : ¬ a < 1) (h1 : ¬ 100 < a) (h2 : ¬ b < 1) (h3 : ¬ 10000 < b) (h4 : ¬ n < 1) (h5 : 8 < n) : Calls Tryz.prog 4 #[.agg #[.int .i64 a, .int .i64 b], .int .i64 n] w fun e w' => e = .returned (.tuple #[.int .i64 0, .int .i64 2]) ∧ w' = w.alloc (.cells #[.int .i64 a, .int .i64 b] 23) := by
  go_enter Tryz.func4, Tryz.ntmps4
  go_wp2
  go_ret2
  exact ⟨rfl, rfl⟩
set_option maxHeartbeats 2000000 in
theorem bound4_6 (a b n : Int) (w : World) (h0 : ¬ a < 1) (h1 : ¬ 100 < a) (h2 : ¬ b < 1) (h3 : ¬ 10000 < b) (h4 : ¬ n < 1) (h5 : ¬ 8 < n) : Calls Tryz.prog 4 #[.agg #[.int .i64 a, .int .i64 b], .int .i64 n] w fun e w' => e = .returned (.tuple #[.int .i64 (wrap64 (b + 8 * a + wrap64 (2 * n * (a + 2)))), .int .i64 0]) ∧ w' = w.alloc (.cells #[.int .i64 a, .int .i64 b] 23) := by
  go_enter Tryz.func4, Tryz.ntmps4
  go_wp2
  go_ret2
  exact ⟨rfl, rfl⟩
theorem bound4 (a b n : Int) (w : World) : Calls Tryz.prog 4 #[.agg #[.int .i64 a, .int .i64 b], .int .i64 n] w fun e w' => e = .returned (.tuple #[.int .i64 (resB a b n).1, .int .i64 (resB a b n).2]) ∧ w' = w.alloc (.cells #[.int .i64 a, .int .i64 b] 23) := by
  by_cases h0 : a < 1
  · have e : resB a b n = (0, 2) := if_neg (by omega)
    rw [e]; exact bound4_0 a b n w h0
  by_cases h1 : 100 < a
  · have e : resB a b n = (0, 2) := if_neg (by omega)
    rw [e]; exact bound4_1 a b n w h0 h1
  by_cases h2 : b < 1
  · have e : resB a b n = (0, 2) := if_neg (by omega)
    rw [e]; exact bound4_2 a b n w h0 h1 h2
  by_cases h3 : 10000 < b
  · have e : resB a b n = (0, 2) := if_neg (by omega)
    rw [e]; exact bound4_3 a b n w h0 h1 h2 h3
  by_cases h4 : n < 1
  · have e : resB a b n = (0, 2) := if_neg (by omega)
    rw [e]; exact bound4_4 a b n w h0 h1 h2 h3 h4
  by_cases h5 : 8 < n
  · have e : resB a b n = (0, 2) := if_neg (by omega)
    rw [e]; exact bound4_5 a b n w h0 h1 h2 h3 h4 h5
  have e : resB a b n = (wrap64 (b + 8 * a + wrap64 (2 * n * (a + 2))), 0) := if_pos (by omega)
  rw [e]; exact bound4_6 a b n w h0 h1 h2 h3 h4 h5
set_option maxHeartbeats 2000000 in
theorem bound5_0 (a b n : Int) (w : World)  (h0 : a < 1) : Calls Tryz.prog 5 #[.agg #[.int .i64 a, .int .i64 b], .int .i64 n] w fun e w' => e = .returned (.tuple #[.int .i64 0, .int .i64 2]) ∧ w' = w.alloc (.cells #[.int .i64 a, .int .i64 b] 23) := by
  go_enter Tryz.func5, Tryz.ntmps5
  go_wp2
  go_ret2
  exact ⟨rfl, rfl⟩
set_option maxHeartbeats 2000000 in
theorem bound5_1 (a b n : Int) (w : World) (h0 : ¬ a < 1) (h1 : 100 < a) : Calls Tryz.prog 5 #[.agg #[.int .i64 a, .int .i64 b], .int .i64 n] w fun e w' => e = .returned (.tuple #[.int .i64 0, .int .i64 2]) ∧ w' = w.alloc (.cells #[.int .i64 a, .int .i64 b] 23) := by
  go_enter Tryz.func5, Tryz.ntmps5
  go_wp2
  go_ret2
  exact ⟨rfl, rfl⟩
set_option maxHeartbeats 2000000 in
theorem bound5_2 (a b n : Int) (w : World) (h0 : ¬ a < 1) (h1 : ¬ 100 < a) (h2 : b < 1) : Calls Tryz.prog 5 #[.agg #[.int .i64 a, .int .i64 b], .int .i64 n] w fun e w' => e = .returned (.tuple #[.int .i64 0, .int .i64 2]) ∧ w' = w.alloc (.cells #[.int .i64 a, .int .i64 b] 23) := by
  go_enter Tryz.func5, Tryz.ntmps5
  go_wp2
  go_ret2
  exact ⟨rfl, rfl⟩
set_option maxHeartbeats 2000000 in
theorem bound5_3 (a b n : Int) (w : World) (h0 : ¬ a < 1) (h1 : ¬ 100 < a) (h2 : ¬ b < 1) (h3 : 10000 < b) : Calls Tryz.prog 5 #[.agg #[.int .i64 a, .int .i64 b], .int .i64 n] w fun e w' => e = .returned (.tuple #[.int .i64 0, .int .i64 2]) ∧ w' = w.alloc (.cells #[.int .i64 a, .int .i64 b] 23) := by
  go_enter Tryz.func5, Tryz.ntmps5
  go_wp2
  go_ret2
  exact ⟨rfl, rfl⟩
set_option maxHeartbeats 2000000 in
theorem bound5_4 (a b n : Int) (w : World) (h0 : ¬ a < 1) (h1 : ¬ 100 < a) (h2 : ¬ b < 1) (h3 : ¬ 10000 < b) (h4 : n < 1) : Calls Tryz.prog 5 #[.agg #[.int .i64 a, .int .i64 b], .int .i64 n] w fun e w' => e = .returned (.tuple #[.int .i64 0, .int .i64 2]) ∧ w' = w.alloc (.cells #[.int .i64 a, .int .i64 b] 23) := by
  go_enter Tryz.func5, Tryz.ntmps5
  go_wp2
  go_ret2
  exact ⟨rfl, rfl⟩
set_option maxHeartbeats 2000000 in
theorem bound5_5 (a b n : Int) (w : World) (h0 : ¬ a < 1) (h1 : ¬ 100 < a) (h2 : ¬ b < 1) (h3 : ¬ 10000 < b) (h4 : ¬ n < 1) (h5 : 8 < n) : Calls Tryz.prog 5 #[.agg #[.int .i64 a, .int .i64 b], .int .i64 n] w fun e w' => e = .returned (.tuple #[.int .i64 0, .int .i64 2]) ∧ w' = w.alloc (.cells #[.int .i64 a, .int .i64 b] 23) := by
  go_enter Tryz.func5, Tryz.ntmps5
  go_wp2
  go_ret2
  exact ⟨rfl, rfl⟩
set_option maxHeartbeats 2000000 in
theorem bound5_6 (a b n : Int) (w : World) (h0 : ¬ a < 1) (h1 : ¬ 100 < a) (h2 : ¬ b < 1) (h3 : ¬ 10000 < b) (h4 : ¬ n < 1) (h5 : ¬ 8 < n) : Calls Tryz.prog 5 #[.agg #[.int .i64 a, .int .i64 b], .int .i64 n] w fun e w' => e = .returned (.tuple #[.int .i64 (wrap64 (b + 8 * a + wrap64 (2 * n * (a + 2)))), .int .i64 0]) ∧ w' = w.alloc (.cells #[.int .i64 a, .int .i64 b] 23) := by
  go_enter Tryz.func5, Tryz.ntmps5
  go_wp2
  go_ret2
  exact ⟨rfl, rfl⟩
theorem bound5 (a b n : Int) (w : World) : Calls Tryz.prog 5 #[.agg #[.int .i64 a, .int .i64 b], .int .i64 n] w fun e w' => e = .returned (.tuple #[.int .i64 (resB a b n).1, .int .i64 (resB a b n).2]) ∧ w' = w.alloc (.cells #[.int .i64 a, .int .i64 b] 23) := by
  by_cases h0 : a < 1
  · have e : resB a b n = (0, 2) := if_neg (by omega)
    rw [e]; exact bound5_0 a b n w h0
  by_cases h1 : 100 < a
  · have e : resB a b n = (0, 2) := if_neg (by omega)
    rw [e]; exact bound5_1 a b n w h0 h1
  by_cases h2 : b < 1
  · have e : resB a b n = (0, 2) := if_neg (by omega)
    rw [e]; exact bound5_2 a b n w h0 h1 h2
  by_cases h3 : 10000 < b
  · have e : resB a b n = (0, 2) := if_neg (by omega)
    rw [e]; exact bound5_3 a b n w h0 h1 h2 h3
  by_cases h4 : n < 1
  · have e : resB a b n = (0, 2) := if_neg (by omega)
    rw [e]; exact bound5_4 a b n w h0 h1 h2 h3 h4
  by_cases h5 : 8 < n
  · have e : resB a b n = (0, 2) := if_neg (by omega)
    rw [e]; exact bound5_5 a b n w h0 h1 h2 h3 h4 h5
  have e : resB a b n = (wrap64 (b + 8 * a + wrap64 (2 * n * (a + 2))), 0) := if_pos (by omega)
  rw [e]; exact bound5_6 a b n w h0 h1 h2 h3 h4 h5
end Go.Ev
