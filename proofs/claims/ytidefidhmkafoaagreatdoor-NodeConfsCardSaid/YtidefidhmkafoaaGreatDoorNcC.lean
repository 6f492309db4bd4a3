/- NodeConfs, called: whatever the conf. -/
import Derived.Test.YtidefidhmkafoaaGreatDoorNcZ
import Derived.Test.YtidefidhmkafoaaGreatDoorEv4
set_option linter.unusedSimpArgs false
set_option linter.unusedVariables false
namespace Go.Ev
open Go Go.Proofs Go.RowKit
theorem inV_vr {ρ : Rn} {x : V} {n : Int} (h : inV x n) : VR ρ x (.int .i64 n) ∧ V.one x = true ∧ flat1 x = true := by
  unfold inV at h
  split at h
  · subst h; exact ⟨.int _ _, rfl, rfl⟩
  · exact ⟨.rng _ _ _ _ h.1 h.2, rfl, rfl⟩
  · exact h.elim
theorem nc_calls (a b r t : Int) (W : World) (ha : -9223372036854775808 ≤ a ∧ a ≤ 9223372036854775807) (hb : -9223372036854775808 ≤ b ∧ b ≤ 9223372036854775807) (hr : -9223372036854775808 ≤ r ∧ r ≤ 9223372036854775807) (ht : -9223372036854775808 ≤ t ∧ t ≤ 9223372036854775807)
    (hW : BaseW gl W) : Calls Tryz.prog 3 #[.agg #[.int .i64 a, .int .i64 b, .int .i64 r, .int .i64 t]] W fun e W' => e = .returned (.bool true) ∧ Below W.heap.size W W' := by
  obtain ⟨x0, x1, x2, x3, hf, i0, i1, i2, i3⟩ := nc_case a b r t ha hb hr ht
  obtain ⟨v0, o0, g0⟩ := inV_vr (ρ := fun _ => none) i0
  obtain ⟨v1, o1, g1⟩ := inV_vr (ρ := fun _ => none) i1
  obtain ⟨v2, o2, g2⟩ := inV_vr (ρ := fun _ => none) i2
  obtain ⟨v3, o3, g3⟩ := inV_vr (ρ := fun _ => none) i3
  have hone : allOne [x0, x1, x2, x3] = true := by
    rw [allOne_iff]; intro v hv; simp at hv; rcases hv with rfl | rfl | rfl | rfl <;> assumption
  have hfl : flats [.agg [x0, x1, x2, x3]] = true := by
    have : flatL [x0, x1, x2, x3] = true := by
      rw [flatL_cons, g0]; simp only
      rw [flatL_cons, g1]; simp only
      rw [flatL_cons, g2]; simp only
      rw [flatL_cons, g3]; rfl
    rw [flats_cons]
    have h2 : flat (.agg [x0, x1, x2, x3]) = true := this
    rw [h2]; rfl
  have hargs : VRs (fun _ => none) [.agg [x0, x1, x2, x3]] [.agg #[.int .i64 a, .int .i64 b, .int .i64 r, .int .i64 t]] :=
    .cons _ _ _ _ (.agg [x0, x1, x2, x3] [.int .i64 a, .int .i64 b, .int .i64 r, .int .i64 t] (.cons _ _ _ _ v0 (.cons _ _ _ _ v1 (.cons _ _ _ _ v2 (.cons _ _ _ _ v3 .nil)))) hone) .nil
  have hname : (Tryz.f3.name == "runtime.NumGoroutine") = false := by
    have := Array.all_eq_true'.1 nc_names Tryz.f3 (Array.mem_of_getElem? Tryz.func3)
    simpa using this
  obtain ⟨c, hbody⟩ : ∃ c, Tryz.f3.body = some c := ⟨_, rfl⟩
  refine (calls_of_fact gl_len gl_flat Tryz.func3 hname hbody hf hW hargs hfl).mono ?_
  rintro e W' ⟨v', rfl, hv, hbl⟩
  cases hv
  exact ⟨rfl, hbl⟩
end Go.Ev
