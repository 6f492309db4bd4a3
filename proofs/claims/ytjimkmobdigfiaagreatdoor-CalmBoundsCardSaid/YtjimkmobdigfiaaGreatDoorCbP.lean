/- Proved: for every pace and every number, the call chirographlaw36.CalmBounds returns true, and both read afterwards as they did. Conditions: none beyond the row's own (the variables chirograph/sha.k and chirograph/keys.letters hold at the call's beginning what their initialisers lay: the card ties that to the program's text). How: the law, calm.Bound and the document's Bound are walked; alive, a closed call, was run by an evaluator that is proved sound. -/
import Derived.Test.YtjimkmobdigfiaaGreatDoorCbF1
import Derived.Test.YtjimkmobdigfiaaGreatDoorCbG
import Derived.Test.YtjimkmobdigfiaaGreatDoorCbL
import Derived.Test.YtjimkmobdigfiaaGreatDoorRows
import Derived.Test.YtjimkmobdigfiaaGreatDoorTie
import Derived.Test.YtjimkmobdigfiaaGreatDoorCards
import Derived.ProofKit
import Derived.HandedShaped
import Derived.Lib.LaidU8
import Derived.Lay
import Derived.SevenTiedAt
import Derived.MakeChecks
set_option linter.unusedSimpArgs false
set_option linter.unusedVariables false
namespace Go.Ev
open Go Go.Proofs Go.RowKit Go.Lib Go.ChangeShapes Go.WideShapes
set_option maxRecDepth 100000

-- WHAT THE VARIABLES HOLD
theorem nc_letters : Tryz.prog.globalNamed "chirograph/keys.letters" = some 0 := by kernel_rfl
theorem nc_k : Tryz.prog.globalNamed "chirograph/sha.k" = some 2 := by kernel_rfl
theorem nc_type0 : (Tryz.prog.globals[0]?).map (·.type) = some 293 := by kernel_rfl
theorem nc_type2 : (Tryz.prog.globals[2]?).map (·.type) = some 549 := by kernel_rfl
theorem nc_cells9 : Tryz.prog.cellsOf 9 = 1 := by kernel_rfl
theorem nc_cells471 : Tryz.prog.cellsOf 471 = 1 := by kernel_rfl
theorem nc_cells3 : Tryz.prog.cellsOf 3 = 1 := by kernel_rfl
theorem nc_cells23 : Tryz.prog.cellsOf 23 = 2 := by kernel_rfl

/-- one datum and one value of the evaluator -/
def sameD (d : DataW Unit) (v : V) : Bool := match d, v with
  | .lit (.int k n), .int j m => k == j && n == m
  | .lit (.string s), .str l n => s.map (·.toNat) == l && s.length == n
  | _, _ => false
theorem sameD_vr {d : DataW Unit} {v : V} {c : Value} {ρ : Rn} (h : sameD d v = true) (hc : (∃ k n, c = .int k n ∧ d = .lit (.int k n)) ∨ (∃ s : ByteArray, c = .string s ∧ d = .lit (.string s.data.toList))) : VR ρ v c := by
  rcases hc with ⟨k, n, rfl, rfl⟩ | ⟨s, rfl, rfl⟩
  · cases v <;> simp [sameD] at h
    obtain ⟨rfl, rfl⟩ := h
    exact .int _ _
  · cases v <;> simp [sameD] at h
    obtain ⟨h1, h2⟩ := h
    refine .str _ _ _ ?_ ?_
    · rw [← h1]; simp [ofBytes]
    · rw [← h1]; simp [h2]
def sameDs : List (DataW Unit) → List V → Bool
  | d :: ds, v :: vs => sameD d v && sameDs ds vs
  | _, _ => true
theorem sameDs_at : ∀ {ds : List (DataW Unit)} {r : List V}, sameDs ds r = true → ∀ (i : Nat) (d : DataW Unit) (v : V), ds[i]? = some d → r[i]? = some v → sameD d v = true
  | [], _, _, i, d, v, hd, _ => by simp at hd
  | _ :: _, [], _, i, d, v, _, hv => by simp at hv
  | d0 :: ds, v0 :: r, h, i, d, v, hd, hv => by
    simp only [sameDs, Bool.and_eq_true] at h
    cases i with
    | zero => simp at hd hv; subst hd; subst hv; exact h.1
    | succ i => exact sameDs_at h.2 i d v (by simpa using hd) (by simpa using hv)
/-- a variable that is an array of numbers or texts -/
theorem base_var {W : World} {nm : String} {g t e n : Nat} {ds : List (DataW Unit)} {r : List V} (hread : VarReads Tryz.prog W nm (.agg ds)) (hg : Tryz.prog.globalNamed nm = some g) (ht : (Tryz.prog.globals[g]?).map (·.type) = some t)
    (hu : Tryz.prog.underlying t = some (.array n e)) (hce : Tryz.prog.cellsOf e = 1) (hk : (∃ k, Tryz.prog.underlying e = some (.int k)) ∨ Tryz.prog.underlying e = some .string) (hlen : r.length = n)
    (hsame : ∀ (i : Nat) (d : DataW Unit) (v : V), ds[i]? = some d → r[i]? = some v → sameD d v = true) :
    g < W.heap.size ∧ ∃ cs e fz, W.heap[g]? = some (.cells cs e fz) ∧ ∀ (j : Nat) (v : V), r[j]? = some v → ∃ v', cs[j]? = some v' ∧ VR (fun _ => none) v v' := by
  obtain ⟨g', t', cs, fuel, p, h1, h2, h3, h4⟩ := hread
  rw [hg] at h1; injection h1 with h1; subst h1
  rw [ht] at h2; injection h2 with h2; subst h2
  have hrow : ∃ e fz, W.heap[g]? = some (.cells cs e fz) := by
    unfold World.var? at h3
    rw [hg] at h3
    simp only [Option.bind_some] at h3
    generalize W.heap[g]? = q at h3
    match q, h3 with
    | some (.cells cs' e' fz), h3 =>
      injection h3 with h3; subst h3
      exact ⟨e', fz, rfl⟩
  obtain ⟨e', fz, hrow⟩ := hrow
  refine ⟨?_, cs, e', fz, hrow, fun j v hj => ?_⟩
  · rcases Nat.lt_or_ge g W.heap.size with q | q
    · exact q
    · rw [Array.getElem?_eq_none q] at hrow; cases hrow
  · have hjn : j < n := by
      rcases Nat.lt_or_ge j r.length with q | q
      · omega
      · rw [List.getElem?_eq_none q] at hj; cases hj
    obtain ⟨fuel', d, q, d1, d2⟩ := array_elem hu h4 j hjn
    rw [hce, Nat.mul_one] at d2
    have hs := hsame j d v d1 hj
    rcases hk with ⟨k, hk⟩ | hk
    · obtain ⟨m, c1, c2, _⟩ := DataW.trod_int hk d2
      injection c2 with c2 _
      have hcell : cs[j]? = some (.int k m) := by
        have := congrArg (·[0]?) c1
        simpa [List.getElem?_take, List.getElem?_drop] using this
      exact ⟨_, hcell, sameD_vr hs (.inl ⟨k, m, rfl, c2⟩)⟩
    · obtain ⟨s, c1, c2, _⟩ := DataW.trod_string hk d2
      injection c2 with c2 _
      have hcell : cs[j]? = some (.string s) := by
        have := congrArg (·[0]?) c1
        simpa [List.getElem?_take, List.getElem?_drop] using this
      exact ⟨_, hcell, sameD_vr hs (.inr ⟨s, rfl, c2⟩)⟩

theorem nc_base {W : World} (hlaid : laidMet Tryz.prog [("chirograph/sha.k", YtjimkmobdigfiaaGreatDoor.Rows.laid_chirograph_sha_k), ("chirograph/keys.letters", YtjimkmobdigfiaaGreatDoor.Rows.laid_chirograph_keys_letters)] W) (hsh : W.ShapedOpen Tryz.prog) : BaseW gl W := by
  have hk := laidMet.reads hlaid (List.mem_cons_self ..)
  have hl := laidMet.reads hlaid (List.mem_cons_of_mem _ (List.mem_cons_self ..))
  intro i r hir
  match i, hir with
  | 0, hir =>
    have hir : some gl[0] = some r := hir
    injection hir with hir; subst hir
    have h1 := base_var (g := 0) (r := gl[0]) hl nc_letters nc_type0 Tryz.underlying293 nc_cells9 (.inr (by kernel_rfl)) (by kernel_rfl) (sameDs_at (by kernel_rfl))
    exact ⟨h1.1, by kernel_rfl, .inr h1.2⟩
  | 1, hir =>
    have hir : some ([] : List V) = some r := hir
    injection hir with hir; subst hir
    refine ⟨?_, rfl, .inl rfl⟩
    obtain ⟨cs, hc, _⟩ := hsh.1 1 #[.int .i64 0] 3 (by have : Tryz.prog.globals.size = 3 := by kernel_rfl
                                                       omega) (by kernel_rfl)
    rcases Nat.lt_or_ge 1 W.heap.size with q | q
    · exact q
    · rw [Array.getElem?_eq_none q] at hc; cases hc
  | 2, hir =>
    have hir : some gl[2] = some r := hir
    injection hir with hir; subst hir
    have h1 := base_var (g := 2) (r := gl[2]) hk nc_k nc_type2 Tryz.underlying549 nc_cells471 (.inl ⟨.u32, by kernel_rfl⟩) (by kernel_rfl) (sameDs_at (by kernel_rfl))
    exact ⟨h1.1, by kernel_rfl, .inr h1.2⟩
  | i + 3, hir => cases hir

theorem alive_calls (w : World) (hW : BaseW gl w) : Calls Tryz.prog 6 #[] w fun e w' => e = .returned (.bool true) ∧ Below w.heap.size w w' := by
  have hname : (Tryz.f6.name == "runtime.NumGoroutine") = false := by
    have := Array.all_eq_true'.1 nc_names Tryz.f6 (Array.mem_of_getElem? Tryz.func6)
    simpa using this
  obtain ⟨c, hbody⟩ : ∃ c, Tryz.f6.body = some c := ⟨_, rfl⟩
  have hf : FactOk Tryz.prog (gOf gl) 6 [] (.bool true) := LZ_0f _ (List.mem_cons_self ..)
  refine (calls_of_fact gl_len gl_flat Tryz.func6 hname hbody hf hW (args' := []) .nil rfl).mono ?_
  rintro e w' ⟨v', rfl, hv, hbl⟩
  cases hv
  exact ⟨rfl, hbl⟩

-- A PACE
section
variable {H : Type} {enc : TypeId × Value → H} {W : World} {base : Nat} {sp : Nat → Bool} {held : Bool}
theorem open_pace {r : Reach} {b0 : Nat} {v : Value} {d : DataW H} {p : List MemPlace} (hv : Value.okWide Tryz.prog W r b0 23 v) (h : DataW.Trod enc Tryz.prog W base sp held 23 v d p) :
    ∃ a b : Int, v = .agg #[.int .i64 a, .int .i64 b] ∧ d = .agg [.lit (.int .i64 a), .lit (.int .i64 b)] ∧ p = [] ∧ (Lit.int .i64 a).wf = true ∧ (Lit.int .i64 b).wf = true := by
  obtain ⟨cs, rfl, hsz⟩ := okWide_struct Tryz.underlying23 hv
  obtain ⟨fuel, hf⟩ := h
  obtain ⟨xs, n, _, hx, hl, hxl, hat⟩ := DataW.trod_struct Tryz.underlying23 hf
  have hc : (Value.agg cs).cells = cs := rfl
  rw [hc] at hat hl
  have h0 : DataW.trod enc Tryz.prog W base sp held n 3 ((cs.toList.drop 0).take (Tryz.prog.cellsOf 3)) = xs[0]? := hat 0 _ rfl
  have h1 : DataW.trod enc Tryz.prog W base sp held n 3 ((cs.toList.drop 1).take (Tryz.prog.cellsOf 3)) = xs[1]? := hat 1 _ rfl
  rw [nc_cells3] at h0 h1
  rw [nc_cells23] at hsz
  obtain ⟨l⟩ := cs
  have hl2 : l.length = 2 := by simpa using hsz
  match l, hl2 with
  | [c0, c1], _ =>
    have hxl2 : xs.length = 2 := hxl
    match xs, hxl2 with
    | [x0, x1], _ =>
      obtain ⟨a, e1, e2, w0⟩ := DataW.trod_int Tryz.underlying3 h0
      obtain ⟨b, e3, e4, w1⟩ := DataW.trod_int Tryz.underlying3 h1
      simp at e1 e3
      subst e1; subst e3; subst e2; subst e4
      simp only [Prod.mk.injEq] at hx
      exact ⟨a, b, rfl, hx.1, hx.2, w0, w1⟩
theorem shut_pace {a b : Int} (w0 : (Lit.int .i64 a).wf = true) (w1 : (Lit.int .i64 b).wf = true) :
    DataW.Trod enc Tryz.prog W base sp held 23 (.agg #[.int .i64 a, .int .i64 b]) (.agg [.lit (.int .i64 a), .lit (.int .i64 b)]) [] :=
  ⟨2, by simp [DataW.trod, Value.cells, Tryz.underlying23, Tryz.underlying3, nc_cells23, nc_cells3, w0, w1]⟩
end

-- THE WRAP: the condition on the variables, and the world's shape
section
variable {H : Type} {enc : TypeId × Value → H}
theorem returns_and_shaped {a : Assume} {C : Checked} {os : Os} {f : FuncId} {fn : Func} {s : ChangeSpec} {conds : List PathCond} {apart fresh handsOn again : Bool} {X : World → Array Value → Prop}
    (hX : ∀ (w w' : World) (args : Array Value), w.heap = w'.heap → X w args → X w' args)
    (own : ownKnob C.prog.godebug = none) (started : os.Started) (noInit : C.prog.inits.idxOf? f = none) (hfn : C.prog.funcs[f]? = some fn)
    (witness : ∃ (w : World) (tape : Tape) (i : Input), w.os = os ∧ (w.forCall tape i).Shaped C.prog ∧ i.vars = [] ∧ Input.okWide C.prog (w.forCall tape i) .any w.heap.size f i ∧
      ((s.pre enc C.prog fn conds apart (w.forCall tape i).memory i.args ∧ X (w.forCall tape i).memory i.args) ∧ sizedMet enc C.prog fn (OpenSpec.ofChange s) apart (w.forCall tape i).memory i.args) ∧ a.holds C.prog (lone (Frame.enter C.prog f i.args .normal) [] (w.forCall tape i)))
    (contract : ∀ (W : World) (base : Nat) (args : Array Value) (ds gs : List (DataW H)) (before : List MemPlace),
      (∀ (j : Nat) t v, fn.params[j]? = some t → args[j]? = some v → Value.okWide C.prog W .any base t v) →
      DataW.Whole enc C.prog fn.params.toList s.vars apart W args.toList ds gs before → X W args → W.ShapedOpen C.prog →
      Calls C.prog f args W fun e W' => ∃ v, e = .returned v ∧ s.post enc C.prog fn apart fresh handsOn again W args v W') :
    ReturnsInHanded a C os f .any (fun w args => (s.pre enc C.prog fn conds apart w args ∧ X w args) ∧ sizedMet enc C.prog fn (OpenSpec.ofChange s) apart w args) (s.post enc C.prog fn apart fresh handsOn again) := by
  refine returnsInHanded_of_calls own started noInit witness ?_
  intro w tape i _ hsh _ hok hpre hholds
  obtain ⟨_, _, _, fn', hfn', _, _, _, _, hval⟩ := hok
  have e : fn' = fn := Option.some.inj (hfn'.symm.trans hfn)
  subst e
  obtain ⟨⟨⟨ds, gs, before, hw, hc⟩, hx⟩, hz⟩ := hpre
  have hw' := DataW.Whole.of_heap (w' := w.forCall tape i) (by rfl) hw
  refine (contract (w.forCall tape i) w.heap.size i.args ds gs before hval hw' (hX _ _ _ (by rfl) hx) hsh).mono fun e W' ⟨v, he, hp⟩ => ?_
  subst he
  exact ChangeSpec.post_blind hp
end
end Go.Ev

namespace Go.Proofs.YtjimkmobdigfiaaGreatDoor
open Go.ChangeShapes Go.WideShapes Go.ChangeAt Go.RowKit Go.Ev
theorem Tryz.own : ownKnob Tryz.prog.godebug = none := by kernel_rfl
abbrev nlaid : List (String × DataW Unit) := [("chirograph/sha.k", Rows.laid_chirograph_sha_k), ("chirograph/keys.letters", Rows.laid_chirograph_keys_letters)]
set_option maxRecDepth 100000 in
theorem calmBounds_lifted (os : Os) (started : os.Started) (H : Type) (enc : TypeId × Value → H) :
    ReturnsInHanded {} Tryz.checked os 3 .any (fun w args => (Rows.calmBoundsSpec.pre enc Tryz.prog Tryz.f3 [] false w args ∧ laidMetH Tryz.prog nlaid w) ∧ sizedMet enc Tryz.prog Tryz.f3 (OpenSpec.ofChange Rows.calmBoundsSpec) false w args)
      (Rows.calmBoundsSpec.post enc Tryz.prog Tryz.f3 false true false false) := by
  refine returns_and_shaped (C := Tryz.checked) (X := fun w _ => laidMetH Tryz.prog nlaid w) (fun _ _ _ hh h => h.of_heap hh) Tryz.own started (by kernel_rfl) Tryz.func3
    (ChangeSpec.witness_shaped (enc := enc) (C := Tryz.checked) (os := os) (X := fun w _ => laidMetH Tryz.prog nlaid w) false (World.laidAll Tryz.prog os nlaid) #[.agg #[.int .i64 2, .int .i64 6], .int .i64 3] 8 (World.laidAll_os _ _ _)
      (World.shaped_of_ZipB (by kernel_rfl) (by kernel_rfl)) (by kernel_rfl) (by kernel_rfl) (by kernel_rfl)
      (by rw [MakeChecks.laidMetH_plain _ _ _ (by kernel_rfl)]; exact laidMet_laidAll _ (by kernel_rfl) (by kernel_rfl))) ?_
  intro W base args ds gs before hval0 hW hlaid hshape
  have hval : ∀ (j : Nat) t v, Tryz.f3.params[j]? = some t → args[j]? = some v → Value.okWide Tryz.prog W .any base t v := hval0
  have hW' := hW
  obtain ⟨p, q, hA0, hV, rfl, _, _⟩ := hW
  have hA : DataW.TrodAll enc Tryz.prog W 0 (fun _ => true) true Tryz.f3.params.toList args.toList ds p := hA0
  rw [Tryz.params3] at hA hval
  obtain ⟨v0, v1, d0, d1, p0, p1, rfl, rfl, rfl, h0, h1⟩ := trodAll_two hA
  obtain ⟨rfl, rfl⟩ := trodVars_none hV
  obtain ⟨a, b, rfl, rfl, rfl, wa, wb⟩ := open_pace (hval 0 23 v0 rfl rfl) h0
  obtain ⟨n, rfl, rfl, rfl, wn⟩ := open_int Tryz.underlying3 (hval 1 3 v1 rfl rfl) h1
  have hl : laidMet Tryz.prog nlaid W := by rw [MakeChecks.laidMetH_plain _ _ _ (by kernel_rfl)] at hlaid; exact hlaid
  simp only [List.append_nil] at hW'
  refine (law_calls a b n W (nc_base hl hshape) alive_calls).mono fun e W' ⟨he, hb⟩ => ?_
  subst he
  exact ⟨_, rfl, _, _, _, [], [], [], hW', trodAll_mk1 (shut_bool Tryz.underlying4 _), trodAll_mk2 (shut_pace wa wb) (shut_int Tryz.underlying3 wn), rfl, hb.frame _, fun h => by cases h⟩
theorem b_name : Tryz.prog.funcNamed "chirograph/chirographlaw36.CalmBounds" = some 3 := by kernel_rfl
theorem b_wf : Rows.calmBoundsRow.wfByText (OpenSpec.ofChange Rows.calmBoundsSpec) = true := by kernel_rfl
theorem b_main : Tryz.prog.mainIs = some (true, "c83de9b1421c502c209d1143ce974b8bedf09a6f99ab7dc52dfa3fb65dea174b".toList) := by kernel_rfl
theorem b_looks : true = Tryz.prog.looks [] := by kernel_rfl
theorem b_stand : ([23, 3].all fun u => !Tryz.prog.wantsStandIn u) = true := by kernel_rfl
theorem calmBounds_said : Rows.CalmBoundsSaid :=
  OpenClaim.holds_of_wide 3 Tryz.f3 rfl rfl rfl rfl rfl rfl rfl ⟨rfl, rfl, rfl, rfl, rfl⟩ rfl rfl rfl rfl rfl b_name Tryz.func3 g_all
    (of_decide_eq_true (by kernel_rfl)) (by unfold Func.isWrapper; first | (rw [if_pos (by decide +kernel)]; kernel_rfl) | (rw [if_neg (by decide +kernel)]; exact ⟨rfl, rfl⟩))
    (fun os started H enc _ => calmBounds_lifted os started H enc)
theorem calmBounds_card : Rows.CalmBoundsCardSaid :=
  Claim7.holds_tied_plain_at .later [] [.data, .data] true (true, "c83de9b1421c502c209d1143ce974b8bedf09a6f99ab7dc52dfa3fb65dea174b") true calmBounds_said (fun _ h => by cases h) b_wf (fun _ h => by cases h) calmBounds_row_tie rfl ⟨rfl, rfl⟩ b_main rfl
    (fun f fn hf hfn => by
      obtain rfl : f = 3 := Option.some.inj (b_name.symm.trans hf) |>.symm
      obtain rfl : fn = Tryz.f3 := (Option.some.inj (Tryz.func3.symm.trans hfn)).symm
      exact ⟨b_looks, fun j t ht => by
        rw [Tryz.params3] at ht
        have hm : t ∈ [23, 3] := by simpa using Array.mem_of_getElem? ht
        exact (show Tryz.prog.wantsStandIn t = false by simpa using List.all_eq_true.1 b_stand t hm)⟩)
    g_goes
end Go.Proofs.YtjimkmobdigfiaaGreatDoor
