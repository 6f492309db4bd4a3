/- The program, to the evaluator. -/
import Derived.Test.YtjimkmobdigfiaaGreatDoorEv4
import Derived.Test.YtjimkmobdigfiaaGreatDoorProg
import Derived.KernelRfl
set_option linter.unusedSimpArgs false
set_option linter.unusedVariables false
namespace Go.Ev
open Go Go.Proofs
noncomputable section
def gl : List (List V) := [[.str [] 0, .str [107] 1, .str [115] 1], [], [.int .u32 (.ofNat 1116352408), .int .u32 (.ofNat 1899447441), .int .u32 (.ofNat 3049323471), .int .u32 (.ofNat 3921009573), .int .u32 (.ofNat 961987163), .int .u32 (.ofNat 1508970993), .int .u32 (.ofNat 2453635748), .int .u32 (.ofNat 2870763221), .int .u32 (.ofNat 3624381080), .int .u32 (.ofNat 310598401), .int .u32 (.ofNat 607225278), .int .u32 (.ofNat 1426881987), .int .u32 (.ofNat 1925078388), .int .u32 (.ofNat 2162078206), .int .u32 (.ofNat 2614888103), .int .u32 (.ofNat 3248222580), .int .u32 (.ofNat 3835390401), .int .u32 (.ofNat 4022224774), .int .u32 (.ofNat 264347078), .int .u32 (.ofNat 604807628), .int .u32 (.ofNat 770255983), .int .u32 (.ofNat 1249150122), .int .u32 (.ofNat 1555081692), .int .u32 (.ofNat 1996064986), .int .u32 (.ofNat 2554220882), .int .u32 (.ofNat 2821834349), .int .u32 (.ofNat 2952996808), .int .u32 (.ofNat 3210313671), .int .u32 (.ofNat 3336571891), .int .u32 (.ofNat 3584528711), .int .u32 (.ofNat 113926993), .int .u32 (.ofNat 338241895), .int .u32 (.ofNat 666307205), .int .u32 (.ofNat 773529912), .int .u32 (.ofNat 1294757372), .int .u32 (.ofNat 1396182291), .int .u32 (.ofNat 1695183700), .int .u32 (.ofNat 1986661051), .int .u32 (.ofNat 2177026350), .int .u32 (.ofNat 2456956037), .int .u32 (.ofNat 2730485921), .int .u32 (.ofNat 2820302411), .int .u32 (.ofNat 3259730800), .int .u32 (.ofNat 3345764771), .int .u32 (.ofNat 3516065817), .int .u32 (.ofNat 3600352804), .int .u32 (.ofNat 4094571909), .int .u32 (.ofNat 275423344), .int .u32 (.ofNat 430227734), .int .u32 (.ofNat 506948616), .int .u32 (.ofNat 659060556), .int .u32 (.ofNat 883997877), .int .u32 (.ofNat 958139571), .int .u32 (.ofNat 1322822218), .int .u32 (.ofNat 1537002063), .int .u32 (.ofNat 1747873779), .int .u32 (.ofNat 1955562222), .int .u32 (.ofNat 2024104815), .int .u32 (.ofNat 2227730452), .int .u32 (.ofNat 2361852424), .int .u32 (.ofNat 2428436474), .int .u32 (.ofNat 2756734187), .int .u32 (.ofNat 3204031479), .int .u32 (.ofNat 3329325298)]]
def ext (k : Nat) : Nat := match Nat.beq k 362 with
  | true => 1
  | false => match Nat.beq k 404 with
    | true => 2
    | false => 0
def kn (t : Tab) : Known := { fn := fun k => Tryz.prog.funcs[k]?, ext := ext, sum := sumT t }
end
theorem nc_mixed : Tryz.prog.follows .mixedOrders = true := by kernel_rfl
theorem gl_len : gl.length = Tryz.prog.globals.size := by kernel_rfl
theorem gl_flat : ∀ r ∈ gl, flatL r = true := by
  have : gl.all flatL = true := by kernel_rfl
  exact List.all_eq_true.1 this
theorem nc_names : Tryz.prog.funcs.all (fun f => !(f.name == "runtime.NumGoroutine")) = true := by kernel_rfl
theorem f362 : Tryz.prog.funcs[362]? = some Tryz.f362 := by kernel_rfl
theorem f404 : Tryz.prog.funcs[404]? = some Tryz.f404 := by kernel_rfl
theorem next362 : Extern.findNext Tryz.f362 = none := by kernel_rfl
theorem find362 : Extern.find Tryz.f362 = some Extern.BytealgIndexByte.indexByte := by kernel_rfl
theorem next404 : Extern.findNext Tryz.f404 = none := by kernel_rfl
theorem find404 : Extern.find Tryz.f404 = some Extern.AbiNoEscape.same := by kernel_rfl
theorem ext_cases (k : Nat) : (k = 362 ∧ ext k = 1) ∨ (k = 404 ∧ ext k = 2) ∨ ext k = 0 := by
  unfold ext
  cases h : Nat.beq k 362 with
  | true => exact .inl ⟨beq_nat.1 h, rfl⟩
  | false =>
    cases h2 : Nat.beq k 404 with
    | true => exact .inr (.inl ⟨beq_nat.1 h2, rfl⟩)
    | false => exact .inr (.inr rfl)
theorem nc_known {t : Tab} (ht : TabOk Tryz.prog (gOf gl) t) : KOk Tryz.prog (gOf gl) (kn t) := by
  refine ⟨fun k fn hk => ⟨hk, ?_⟩, ?_, fun k l v h => sumT_ok ht h⟩
  · have := Array.all_eq_true'.1 nc_names fn (Array.mem_of_getElem? hk)
    simpa using this
  · intro k fn l v h h' hk hb e ρ w l' hl
    have hname : (fn.name == "runtime.NumGoroutine") = false := by
      have := Array.all_eq_true'.1 nc_names fn (Array.mem_of_getElem? hk)
      simpa using this
    have e' : extV (ext k) l h = some (v, h') := e
    have hk' : Tryz.prog.funcs[k]? = some fn := hk
    rcases ext_cases k with ⟨rfl, hx⟩ | ⟨rfl, hx⟩ | hx
    · rw [hx] at e'
      rw [f362] at hk'; injection hk' with hk'; subst hk'
      obtain ⟨rfl, v', a, b⟩ := indexByte_sound (P := Tryz.prog) (w := w) e' hl
      exact ⟨rfl, v', by rw [extern_run f362 hname hb next362 find362, a]; rfl, b⟩
    · rw [hx] at e'
      rw [f404] at hk'; injection hk' with hk'; subst hk'
      obtain ⟨rfl, v', a, b⟩ := noEscape_sound (P := Tryz.prog) (w := w) e' hl
      exact ⟨rfl, v', by rw [extern_run f404 hname hb next404 find404, a]; rfl, b⟩
    · rw [hx] at e'; cases e'
end Go.Ev
