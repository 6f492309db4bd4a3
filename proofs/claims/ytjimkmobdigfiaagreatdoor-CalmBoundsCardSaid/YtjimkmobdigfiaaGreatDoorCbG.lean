/- What the row's cells say of the program, fact by fact. -/
import Derived.Test.YtjimkmobdigfiaaGreatDoorRows
import GoSem.ClaimSeven
import Derived.JoinedOf
import Derived.KernelRfl
set_option linter.unusedSimpArgs false
set_option linter.unusedVariables false
namespace Go.Ev
open Go Go.Proofs Go.Proofs.YtjimkmobdigfiaaGreatDoor
set_option maxRecDepth 100000
theorem g_inPlace : (Rows.calmBoundsRow.inPlace == Tryz.prog.inPlace 3) = true := by kernel_rfl
theorem g_unf : (Rows.calmBoundsRow.unfollowed == Tryz.prog.unfollowed 3) = true := by kernel_rfl
theorem g_rec : (Rows.calmBoundsRow.recurses == Tryz.prog.recurses 3) = true := by kernel_rfl
theorem g_named : (Rows.calmBoundsRow.named == Tryz.prog.varsNamed 3) = true := by kernel_rfl
theorem g_all : joinedFacts Tryz.prog 3 Tryz.f3 Rows.calmBoundsSpec Rows.calmBoundsRow = true := by
  unfold joinedFacts
  simp only [g_inPlace, g_unf, g_rec, g_named, Bool.and_true]
  kernel_rfl
theorem goes_false {P : Program} (h : P.funcs.any Func.goes = false) (f : FuncId) : P.goes f = false := by
  unfold Program.goes
  rw [h, Bool.and_false, Bool.or_false]
  rw [List.any_eq_false]
  intro g _ hg
  cases hq : P.funcs[g]? with
  | none => rw [hq] at hg; cases hg
  | some fn =>
    rw [hq] at hg
    have h2 : fn.goes = true := hg
    have := Array.any_eq_false.1 h
    obtain ⟨hlt, he⟩ := Array.getElem?_eq_some_iff.1 hq
    exact this g hlt (by rw [he]; exact h2)
theorem g_noGo : Tryz.prog.funcs.any Func.goes = false := by kernel_rfl
theorem goesFrom_false {P : Program} (h : P.funcs.any Func.goes = false) (s : String) : P.goesFrom s = false := by
  unfold Program.goesFrom
  cases P.funcNamed s with
  | none => rfl
  | some f => exact goes_false h f
theorem goesBy_false {P : Program} (h : P.funcs.any Func.goes = false) {c : OpenClaim} (hs : c.start = .entering) : false = c.goesBy P := by
  unfold OpenClaim.goesBy Program.goesAt
  rw [goesFrom_false h, hs]
  rfl
theorem g_goes : false = Rows.calmBoundsRow.goesBy Tryz.prog := goesBy_false g_noGo rfl
end Go.Ev
