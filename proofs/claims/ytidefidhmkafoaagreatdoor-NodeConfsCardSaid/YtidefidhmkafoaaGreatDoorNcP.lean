/- Proved: for every conf, the call chirographlaw28.NodeConfs returns true, and the conf reads afterwards as it did. Conditions: none beyond the row's own (the variables chirograph/sha.k and chirograph/keys.letters hold at the call's beginning what their initialisers lay: the card ties that to the program's text). How: every conf is one of 86 cases (numbers, or ranges of numbers); each case was run by an evaluator that is proved sound for every order that the machine may draw; the kernel checks the runs. -/
import Derived.Test.YtidefidhmkafoaaGreatDoorNcC
import Derived.Test.YtidefidhmkafoaaGreatDoorRows
import Derived.Test.YtidefidhmkafoaaGreatDoorTie
import Derived.Test.YtidefidhmkafoaaGreatDoorCards
import Derived.ProofKit
import Derived.HandedShaped
import Derived.Lib.LaidU8
import Derived.Lay
import Derived.SevenTiedAt
import Derived.MakeChecks
set_option linter.unusedSimpArgs false
set_option linter.unusedVariables false
namespace Go.Ev
open Go Go.Proofs Go.RowKit Go.Lib Go.ChangeShapes Go.WideShapes
set_option maxRecDepth 100000

-- WHAT THE VARIABLES HOLD
theorem nc_letters : Tryz.prog.globalNamed "chirograph/keys.letters" = some 0 := by kernel_rfl
theorem nc_k : Tryz.prog.globalNamed "chirograph/sha.k" = some 1 := by kernel_rfl
theorem nc_type0 : (Tryz.prog.globals[0]?).map (·.type) = some 350 := by kernel_rfl
theorem nc_type1 : (Tryz.prog.globals[1]?).map (·.type) = some 378 := by kernel_rfl
theorem nc_cells9 : Tryz.prog.cellsOf 9 = 1 := by kernel_rfl
theorem nc_cells322 : Tryz.prog.cellsOf 322 = 1 := by kernel_rfl
theorem nc_cells3 : Tryz.prog.cellsOf 3 = 1 := by kernel_rfl
theorem nc_cells23 : Tryz.prog.cellsOf 23 = 2 := by kernel_rfl
theorem nc_cells25 : Tryz.prog.cellsOf 25 = 4 := by kernel_rfl

/-- one datum and one value of the evaluator -/
def sameD (d : DataW Unit) (v : V) : Bool := match d, v with
  | .lit (.int k n), .int j m => k == j && n == m
  | .lit (.string s), .str l n => s.map (·.toNat) == l && s.length == n
  | _, _ => false
theorem sameD_vr {d : DataW Unit} {v : V} {c : Value} {ρ : Rn} (h : sameD d v = true) (hc : (∃ k n, c = .int k n ∧ d = .lit (.int k n)) ∨ (∃ s : ByteArray, c = .string s ∧ d = .lit (.string s.data.toList))) : VR ρ v c := by
  rcases hc with ⟨k, n, rfl, rfl⟩ | ⟨s, rfl, rfl⟩
  · cases v <;> simp [sameD] at h
    obtain ⟨rfl, rfl⟩ := h
    exact .int _ _
  · cases v <;> simp [sameD] at h
    obtain ⟨h1, h2⟩ := h
    refine .str _ _ _ ?_ ?_
    · rw [← h1]; simp [ofBytes]
    · rw [← h1]; simp [h2]
def sameDs : List (DataW Unit) → List V → Bool
  | d :: ds, v :: vs => sameD d v && sameDs ds vs
  | _, _ => true
theorem sameDs_at : ∀ {ds : List (DataW Unit)} {r : List V}, sameDs ds r = true → ∀ (i : Nat) (d : DataW Unit) (v : V), ds[i]? = some d → r[i]? = some v → sameD d v = true
  | [], _, _, i, d, v, hd, _ => by simp at hd
  | _ :: _, [], _, i, d, v, _, hv => by simp at hv
  | d0 :: ds, v0 :: r, h, i, d, v, hd, hv => by
    simp only [sameDs, Bool.and_eq_true] at h
    cases i with
    | zero => simp at hd hv; subst hd; subst hv; exact h.1
    | succ i => exact sameDs_at h.2 i d v (by simpa using hd) (by simpa using hv)
/-- a variable that is an array of numbers or texts -/
theorem base_var {W : World} {nm : String} {g t e n : Nat} {ds : List (DataW Unit)} {r : List V} (hread : VarReads Tryz.prog W nm (.agg ds)) (hg : Tryz.prog.globalNamed nm = some g) (ht : (Tryz.prog.globals[g]?).map (·.type) = some t)
    (hu : Tryz.prog.underlying t = some (.array n e)) (hce : Tryz.prog.cellsOf e = 1) (hk : (∃ k, Tryz.prog.underlying e = some (.int k)) ∨ Tryz.prog.underlying e = some .string) (hlen : r.length = n)
    (hsame : ∀ (i : Nat) (d : DataW Unit) (v : V), ds[i]? = some d → r[i]? = some v → sameD d v = true) :
    g < W.heap.size ∧ ∃ cs e fz, W.heap[g]? = some (.cells cs e fz) ∧ ∀ (j : Nat) (v : V), r[j]? = some v → ∃ v', cs[j]? = some v' ∧ VR (fun _ => none) v v' := by
  obtain ⟨g', t', cs, fuel, p, h1, h2, h3, h4⟩ := hread
  rw [hg] at h1; injection h1 with h1; subst h1
  rw [ht] at h2; injection h2 with h2; subst h2
  have hrow : ∃ e fz, W.heap[g]? = some (.cells cs e fz) := by
    unfold World.var? at h3
    rw [hg] at h3
    simp only [Option.bind_some] at h3
    generalize W.heap[g]? = q at h3
    match q, h3 with
    | some (.cells cs' e' fz), h3 =>
      injection h3 with h3; subst h3
      exact ⟨e', fz, rfl⟩
  obtain ⟨e', fz, hrow⟩ := hrow
  refine ⟨?_, cs, e', fz, hrow, fun j v hj => ?_⟩
  · rcases Nat.lt_or_ge g W.heap.size with q | q
    · exact q
    · rw [Array.getElem?_eq_none q] at hrow; cases hrow
  · have hjn : j < n := by
      rcases Nat.lt_or_ge j r.length with q | q
      · omega
      · rw [List.getElem?_eq_none q] at hj; cases hj
    obtain ⟨fuel', d, q, d1, d2⟩ := array_elem hu h4 j hjn
    rw [hce, Nat.mul_one] at d2
    have hs := hsame j d v d1 hj
    rcases hk with ⟨k, hk⟩ | hk
    · obtain ⟨m, c1, c2, _⟩ := DataW.trod_int hk d2
      injection c2 with c2 _
      have hcell : cs[j]? = some (.int k m) := by
        have := congrArg (·[0]?) c1
        simpa [List.getElem?_take, List.getElem?_drop] using this
      exact ⟨_, hcell, sameD_vr hs (.inl ⟨k, m, rfl, c2⟩)⟩
    · obtain ⟨s, c1, c2, _⟩ := DataW.trod_string hk d2
      injection c2 with c2 _
      have hcell : cs[j]? = some (.string s) := by
        have := congrArg (·[0]?) c1
        simpa [List.getElem?_take, List.getElem?_drop] using this
      exact ⟨_, hcell, sameD_vr hs (.inr ⟨s, rfl, c2⟩)⟩

theorem nc_base {W : World} (hlaid : laidMet Tryz.prog [("chirograph/sha.k", YtidefidhmkafoaaGreatDoor.Rows.laid_chirograph_sha_k), ("chirograph/keys.letters", YtidefidhmkafoaaGreatDoor.Rows.laid_chirograph_keys_letters)] W) (hsh : W.ShapedOpen Tryz.prog) : BaseW gl W := by
  have hk := laidMet.reads hlaid (List.mem_cons_self ..)
  have hl := laidMet.reads hlaid (List.mem_cons_of_mem _ (List.mem_cons_self ..))
  intro i r hir
  match i, hir with
  | 0, hir =>
    have hir : some gl[0] = some r := hir
    injection hir with hir; subst hir
    have h1 := base_var (g := 0) (r := gl[0]) hl nc_letters nc_type0 Tryz.underlying350 nc_cells9 (.inr (by kernel_rfl)) (by kernel_rfl) (sameDs_at (by kernel_rfl))
    exact ⟨h1.1, by kernel_rfl, .inr h1.2⟩
  | 1, hir =>
    have hir : some gl[1] = some r := hir
    injection hir with hir; subst hir
    have h1 := base_var (g := 1) (r := gl[1]) hk nc_k nc_type1 Tryz.underlying378 nc_cells322 (.inl ⟨.u32, by kernel_rfl⟩) (by kernel_rfl) (sameDs_at (by kernel_rfl))
    exact ⟨h1.1, by kernel_rfl, .inr h1.2⟩
  | 2, hir =>
    have hir : some ([] : List V) = some r := hir
    injection hir with hir; subst hir
    refine ⟨?_, rfl, .inl rfl⟩
    obtain ⟨cs, hc, _⟩ := hsh.1 2 #[.int .i64 0] 3 (by have : Tryz.prog.globals.size = 3 := by kernel_rfl
                                                       omega) (by kernel_rfl)
    rcases Nat.lt_or_ge 2 W.heap.size with q | q
    · exact q
    · rw [Array.getElem?_eq_none q] at hc; cases hc
  | i + 3, hir => cases hir

-- A CONF
section
variable {H : Type} {enc : TypeId × Value → H} {W : World} {base : Nat} {sp : Nat → Bool} {held : Bool}
theorem open_conf {r : Reach} {b0 : Nat} {v : Value} {d : DataW H} {p : List MemPlace} (hv : Value.okWide Tryz.prog W r b0 25 v) (h : DataW.Trod enc Tryz.prog W base sp held 25 v d p) :
    ∃ a b c t : Int, v = .agg #[.int .i64 a, .int .i64 b, .int .i64 c, .int .i64 t] ∧ d = .agg [.lit (.int .i64 a), .lit (.int .i64 b), .agg [.lit (.int .i64 c), .lit (.int .i64 t)]] ∧ p = [] ∧
      (Lit.int .i64 a).wf = true ∧ (Lit.int .i64 b).wf = true ∧ (Lit.int .i64 c).wf = true ∧ (Lit.int .i64 t).wf = true := by
  obtain ⟨cs, rfl, hsz⟩ := okWide_struct Tryz.underlying25 hv
  obtain ⟨fuel, hf⟩ := h
  obtain ⟨xs, n, _, hx, hl, hxl, hat⟩ := DataW.trod_struct Tryz.underlying25 hf
  have hc : (Value.agg cs).cells = cs := rfl
  rw [hc] at hat hl
  have h0 : DataW.trod enc Tryz.prog W base sp held n 3 ((cs.toList.drop 0).take (Tryz.prog.cellsOf 3)) = xs[0]? := hat 0 _ rfl
  have h1 : DataW.trod enc Tryz.prog W base sp held n 3 ((cs.toList.drop 1).take (Tryz.prog.cellsOf 3)) = xs[1]? := hat 1 _ rfl
  have h2 : DataW.trod enc Tryz.prog W base sp held n 23 ((cs.toList.drop 2).take (Tryz.prog.cellsOf 23)) = xs[2]? := hat 2 _ rfl
  rw [nc_cells3] at h0 h1
  rw [nc_cells23] at h2
  rw [nc_cells25] at hsz
  obtain ⟨l⟩ := cs
  have hl4 : l.length = 4 := by simpa using hsz
  match l, hl4 with
  | [c0, c1, c2, c3], _ =>
    have hxl3 : xs.length = 3 := hxl
    match xs, hxl3 with
    | [x0, x1, x2], _ =>
      obtain ⟨a, e1, e2, w0⟩ := DataW.trod_int Tryz.underlying3 h0
      obtain ⟨b, e3, e4, w1⟩ := DataW.trod_int Tryz.underlying3 h1
      obtain ⟨ys, m, _, hy, _, hyl, hyat⟩ := DataW.trod_struct Tryz.underlying23 h2
      have g0 : DataW.trod enc Tryz.prog W base sp held m 3 (([c2, c3].drop 0).take (Tryz.prog.cellsOf 3)) = ys[0]? := hyat 0 _ rfl
      have g1 : DataW.trod enc Tryz.prog W base sp held m 3 (([c2, c3].drop 1).take (Tryz.prog.cellsOf 3)) = ys[1]? := hyat 1 _ rfl
      rw [nc_cells3] at g0 g1
      have hyl2 : ys.length = 2 := hyl
      match ys, hyl2 with
      | [y0, y1], _ =>
        obtain ⟨c, e5, e6, w2⟩ := DataW.trod_int Tryz.underlying3 g0
        obtain ⟨t, e7, e8, w3⟩ := DataW.trod_int Tryz.underlying3 g1
        simp at e1 e3 e5 e7
        subst e1; subst e3; subst e5; subst e7; subst e2; subst e4; subst e6; subst e8; subst hy
        simp only [Prod.mk.injEq] at hx
        exact ⟨a, b, c, t, rfl, hx.1, hx.2, w0, w1, w2, w3⟩
theorem shut_conf {a b c t : Int} (w0 : (Lit.int .i64 a).wf = true) (w1 : (Lit.int .i64 b).wf = true) (w2 : (Lit.int .i64 c).wf = true) (w3 : (Lit.int .i64 t).wf = true) :
    DataW.Trod enc Tryz.prog W base sp held 25 (.agg #[.int .i64 a, .int .i64 b, .int .i64 c, .int .i64 t]) (.agg [.lit (.int .i64 a), .lit (.int .i64 b), .agg [.lit (.int .i64 c), .lit (.int .i64 t)]]) [] :=
  ⟨3, by simp [DataW.trod, Value.cells, Tryz.underlying25, Tryz.underlying23, Tryz.underlying3, nc_cells25, nc_cells23, nc_cells3, w0, w1, w2, w3]⟩
end
theorem wf_i64 {n : Int} (h : (Lit.int .i64 n).wf = true) : -9223372036854775808 ≤ n ∧ n ≤ 9223372036854775807 := by
  simpa [Lit.wf, IntKind.min, IntKind.max, IntKind.signed, IntKind.bits] using h

-- THE WRAP: the condition on the variables, and the world's shape
section
variable {H : Type} {enc : TypeId × Value → H}
theorem returns_and_shaped {a : Assume} {C : Checked} {os : Os} {f : FuncId} {fn : Func} {s : ChangeSpec} {conds : List PathCond} {apart fresh handsOn again : Bool} {X : World → Array Value → Prop}
    (hX : ∀ (w w' : World) (args : Array Value), w.heap = w'.heap → X w args → X w' args)
    (own : ownKnob C.prog.godebug = none) (started : os.Started) (noInit : C.prog.inits.idxOf? f = none) (hfn : C.prog.funcs[f]? = some fn)
    (witness : ∃ (w : World) (tape : Tape) (i : Input), w.os = os ∧ (w.forCall tape i).Shaped C.prog ∧ i.vars = [] ∧ Input.okWide C.prog (w.forCall tape i) .any w.heap.size f i ∧
      ((s.pre enc C.prog fn conds apart (w.forCall tape i).memory i.args ∧ X (w.forCall tape i).memory i.args) ∧ sizedMet enc C.prog fn (OpenSpec.ofChange s) apart (w.forCall tape i).memory i.args) ∧ a.holds C.prog (lone (Frame.enter C.prog f i.args .normal) [] (w.forCall tape i)))
    (contract : ∀ (W : World) (base : Nat) (args : Array Value) (ds gs : List (DataW H)) (before : List MemPlace),
      (∀ (j : Nat) t v, fn.params[j]? = some t → args[j]? = some v → Value.okWide C.prog W .any base t v) →
      DataW.Whole enc C.prog fn.params.toList s.vars apart W args.toList ds gs before → X W args → W.ShapedOpen C.prog →
      Calls C.prog f args W fun e W' => ∃ v, e = .returned v ∧ s.post enc C.prog fn apart fresh handsOn again W args v W') :
    ReturnsInHanded a C os f .any (fun w args => (s.pre enc C.prog fn conds apart w args ∧ X w args) ∧ sizedMet enc C.prog fn (OpenSpec.ofChange s) apart w args) (s.post enc C.prog fn apart fresh handsOn again) := by
  refine returnsInHanded_of_calls own started noInit witness ?_
  intro w tape i _ hsh _ hok hpre hholds
  obtain ⟨_, _, _, fn', hfn', _, _, _, _, hval⟩ := hok
  have e : fn' = fn := Option.some.inj (hfn'.symm.trans hfn)
  subst e
  obtain ⟨⟨⟨ds, gs, before, hw, hc⟩, hx⟩, hz⟩ := hpre
  have hw' := DataW.Whole.of_heap (w' := w.forCall tape i) (by rfl) hw
  refine (contract (w.forCall tape i) w.heap.size i.args ds gs before hval hw' (hX _ _ _ (by rfl) hx) hsh).mono fun e W' ⟨v, he, hp⟩ => ?_
  subst he
  exact ChangeSpec.post_blind hp
end
end Go.Ev

namespace Go.Proofs.YtidefidhmkafoaaGreatDoor
open Go.ChangeShapes Go.WideShapes Go.ChangeAt Go.RowKit Go.Ev
theorem Tryz.own : ownKnob Tryz.prog.godebug = none := by kernel_rfl
abbrev nlaid : List (String × DataW Unit) := [("chirograph/sha.k", Rows.laid_chirograph_sha_k), ("chirograph/keys.letters", Rows.laid_chirograph_keys_letters)]
set_option maxRecDepth 100000 in
theorem nodeConfs_lifted (os : Os) (started : os.Started) (H : Type) (enc : TypeId × Value → H) :
    ReturnsInHanded {} Tryz.checked os 3 .any (fun w args => (Rows.nodeConfsSpec.pre enc Tryz.prog Tryz.f3 [] false w args ∧ laidMetH Tryz.prog nlaid w) ∧ sizedMet enc Tryz.prog Tryz.f3 (OpenSpec.ofChange Rows.nodeConfsSpec) false w args)
      (Rows.nodeConfsSpec.post enc Tryz.prog Tryz.f3 false true false false) := by
  refine returns_and_shaped (C := Tryz.checked) (X := fun w _ => laidMetH Tryz.prog nlaid w) (fun _ _ _ hh h => h.of_heap hh) Tryz.own started (by kernel_rfl) Tryz.func3
    (ChangeSpec.witness_shaped (enc := enc) (C := Tryz.checked) (os := os) (X := fun w _ => laidMetH Tryz.prog nlaid w) false (World.laidAll Tryz.prog os nlaid) #[.agg #[.int .i64 0, .int .i64 1, .int .i64 1, .int .i64 1]] 8 (World.laidAll_os _ _ _)
      (World.shaped_of_ZipB (by kernel_rfl) (by kernel_rfl)) (by kernel_rfl) (by kernel_rfl) (by kernel_rfl)
      (by rw [MakeChecks.laidMetH_plain _ _ _ (by kernel_rfl)]; exact laidMet_laidAll _ (by kernel_rfl) (by kernel_rfl))) ?_
  intro W base args ds gs before hval0 hW hlaid hshape
  have hval : ∀ (j : Nat) t v, Tryz.f3.params[j]? = some t → args[j]? = some v → Value.okWide Tryz.prog W .any base t v := hval0
  have hW' := hW
  obtain ⟨p, q, hA0, hV, rfl, _, _⟩ := hW
  have hA : DataW.TrodAll enc Tryz.prog W 0 (fun _ => true) true Tryz.f3.params.toList args.toList ds p := hA0
  rw [Tryz.params3] at hA hval
  obtain ⟨v0, d0, rfl, rfl, h0⟩ := trodAll_one hA
  obtain ⟨rfl, rfl⟩ := trodVars_none hV
  obtain ⟨a, b, c, t, rfl, rfl, rfl, wa, wb, wc, wt⟩ := open_conf (hval 0 25 v0 rfl rfl) h0
  have hl : laidMet Tryz.prog nlaid W := by rw [MakeChecks.laidMetH_plain _ _ _ (by kernel_rfl)] at hlaid; exact hlaid
  simp only [List.append_nil] at hW'
  refine (nc_calls a b c t W (wf_i64 wa) (wf_i64 wb) (wf_i64 wc) (wf_i64 wt) (nc_base hl hshape)).mono fun e W' ⟨he, hb⟩ => ?_
  subst he
  exact ⟨_, rfl, _, _, _, [], [], [], hW', trodAll_mk1 (shut_bool Tryz.underlying4 _), trodAll_mk1 (shut_conf wa wb wc wt), rfl, hb.frame _, fun h => by cases h⟩
theorem nodeConfs_said : Rows.NodeConfsSaid :=
  OpenClaim.holds_of_wide 3 Tryz.f3 rfl rfl rfl rfl rfl rfl rfl ⟨rfl, rfl, rfl, rfl, rfl⟩ rfl rfl rfl rfl rfl (by kernel_rfl) Tryz.func3 (by kernel_rfl)
    (of_decide_eq_true (by kernel_rfl)) (by unfold Func.isWrapper; first | (rw [if_pos (by decide +kernel)]; kernel_rfl) | (rw [if_neg (by decide +kernel)]; exact ⟨rfl, rfl⟩))
    (fun os started H enc _ => nodeConfs_lifted os started H enc)
theorem nodeConfs_card : Rows.NodeConfsCardSaid :=
  Claim7.holds_tied_plain_at .later [] [.data, .data] true (true, "8e27c49db836f9e51e78df16a9dfe3aaa4962d2ebfec8e1f14aa89c304c013c1") true nodeConfs_said (fun _ h => by cases h) (by kernel_rfl) (fun _ h => by cases h) nodeConfs_row_tie rfl ⟨rfl, rfl⟩ (by kernel_rfl) rfl
    (fun f fn hf hfn => by
      obtain rfl : f = 3 := Option.some.inj ((show Tryz.prog.funcNamed "chirograph/chirographlaw28.NodeConfs" = some 3 by kernel_rfl).symm.trans hf) |>.symm
      obtain rfl : fn = Tryz.f3 := (Option.some.inj (Tryz.func3.symm.trans hfn)).symm
      exact ⟨by kernel_rfl, fun j t ht => by
        rw [Tryz.params3] at ht
        have hm : t ∈ [25] := by simpa using Array.mem_of_getElem? ht
        have hall : ([25].all fun u => !Tryz.prog.wantsStandIn u) = true := by kernel_rfl
        exact (show Tryz.prog.wantsStandIn t = false by simpa using List.all_eq_true.1 hall t hm)⟩)
    (by kernel_rfl)
end Go.Proofs.YtidefidhmkafoaaGreatDoor
