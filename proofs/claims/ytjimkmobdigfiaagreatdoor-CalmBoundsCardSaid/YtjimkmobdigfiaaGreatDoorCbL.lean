/- The law's walk. -/
import Derived.Test.YtjimkmobdigfiaaGreatDoorCbW
import Derived.Test.YtjimkmobdigfiaaGreatDoorCbK
import Derived.Test.YtjimkmobdigfiaaGreatDoorEv4
set_option linter.unusedSimpArgs false
set_option linter.unusedVariables false
namespace Go.Ev
open Go Go.Proofs Go.RowKit
set_option maxRecDepth 100000

theorem BaseW.alloc {l : List (List V)} {w : World} (h : BaseW l w) (o : Obj) : BaseW l (w.alloc o) := by
  intro i r hi
  obtain ⟨h1, h2, h3⟩ := h i r hi
  have hs : (w.alloc o).heap = w.heap.push o := rfl
  refine ⟨by rw [hs]; simp; omega, h2, h3.imp id ?_⟩
  rintro ⟨cs, e, fz, a, b⟩
  exact ⟨cs, e, fz, by rw [hs, Array.getElem?_push, if_neg (by omega)]; exact a, b⟩

set_option maxHeartbeats 4000000 in
theorem law_calls (a b n : Int) (W : World) (hW : BaseW gl W) (hal : ∀ w, BaseW gl w → Calls Tryz.prog 6 #[] w fun e w' => e = .returned (.bool true) ∧ Below w.heap.size w w') :
    Calls Tryz.prog 3 #[.agg #[.int .i64 a, .int .i64 b], .int .i64 n] W fun e W' => e = .returned (.bool true) ∧ Below W.heap.size W W' := by
  go_enter Tryz.func3, Tryz.ntmps3
  go_wp2_with (first | (go_at_call 4; refine (bound4 a b n _).mono ?_; rintro e w' ⟨rfl, rfl⟩) | (go_at_call 5; refine (bound5 a b n _).mono ?_; rintro e w' ⟨rfl, rfl⟩) | (go_at_call 6; refine (hal _ (((hW.alloc _).alloc _).alloc _)).mono ?_; rintro e w' ⟨rfl, hb⟩))
  go_ret
  have z0 := Below.refl W.heap.size W
  have z1 := z0.alloc z0.size (.cells #[.int .i64 a, .int .i64 b] 23)
  have z2 := z1.alloc z1.size (.cells #[.int .i64 a, .int .i64 b] 23)
  have z3 := z2.alloc z2.size (.cells #[.int .i64 a, .int .i64 b] 23)
  exact ⟨rfl, z3.trans (hb.mono z3.size)⟩
end Go.Ev
