/- THE EVALUATOR, part 5: a run of it, asked of the kernel, shows what the program comes to. Nothing of a program stands here. -/
import Derived.Below
import Derived.Test.YtidefidhmkafoaaGreatDoorEv3
set_option linter.unusedSimpArgs false
set_option linter.unusedVariables false
/- Calls of the program's functions; the evaluator is sound. -/
namespace Go.Ev
open Go
variable {P : Program} {G : Nat → Option (List V)} {R : Recs} {ρ : Rn} {h : H} {w : World}

/-- what is known of the program's functions, is so -/
structure KOk (P : Program) (G : Nat → Option (List V)) (K : Known) : Prop where
  fn : ∀ k fn, K.fn k = some fn → P.funcs[k]? = some fn ∧ (fn.name == "runtime.NumGoroutine") = false
  ext : ∀ k fn l v (h h' : H), K.fn k = some fn → fn.body = none → extV (K.ext k) l h = some (v, h') → ∀ ρ w l', VRs ρ l l' → h' = h ∧ ∃ v', (callFunc k l'.toArray).run P w = .ok (.value v') w ∧ VR ρ v v'
  sum : ∀ k l v, K.sum k l = some v → ∀ ρ (h : H) w l', HR P ρ h w → Ctx P G ρ h → VRs ρ l l' → ∃ v' w', Ext ρ h w ρ h w' ∧ HR P ρ h w' ∧ VR ρ v v' ∧ Calling P (callFunc k l'.toArray) w v' w'

theorem bindA_cons (a : V) (l : List V) (i : Nat) (tm : T V) : bindA (a :: l) i tm = bindA l (i + 1) (tm.set i a) := rfl
theorem bindA_get : ∀ (l : List V) (i t : Nat) (tm : T V), (bindA l i tm).get t = if i ≤ t ∧ t < i + l.length then l[t - i]? else tm.get t
  | [], i, t, tm => by
    rw [if_neg (by simp)]
    rfl
  | a :: l, i, t, tm => by
    rw [bindA_cons, bindA_get l (i + 1) t]
    by_cases h1 : t = i
    · subst h1
      rw [if_neg (by omega), if_pos (by simp), T.get_set_same]; simp
    · rw [T.get_set_ne _ _ h1]
      by_cases h2 : i ≤ t ∧ t < i + (a :: l).length
      · rw [if_pos h2, if_pos (by simp only [List.length_cons] at h2; omega)]
        have : t - i = (t - (i + 1)) + 1 := by omega
        rw [this]; simp
      · rw [if_neg h2, if_neg (by simp only [List.length_cons] at h2; omega)]
theorem args_tm {args : List V} {args' : List Value} {n : Nat} (ha : VRs ρ args args') (hn : args.length ≤ n) : TmR ρ (bindA args 0 .e) n (args'.toArray ++ Array.replicate (n - args'.toArray.size) undef) ∧ ∀ t, n ≤ t → (bindA args 0 .e).get t = none := by
  have hlen := ha.length
  refine ⟨⟨by simp; omega, fun i hi => ?_⟩, fun t ht => ?_⟩
  · unfold tmpV
    rw [bindA_get]
    by_cases h1 : i < args.length
    · rw [if_pos (by omega)]
      have hg : args[i - 0]? = some args[i] := by rw [Nat.sub_zero]; exact List.getElem?_eq_getElem h1
      rw [hg]
      obtain ⟨v', a, b⟩ := ha.get (List.getElem?_eq_getElem h1)
      have : (args'.toArray ++ Array.replicate (n - args'.toArray.size) undef).getD i undef = v' := by
        rw [Array.getD_eq_getD_getElem?, Array.getElem?_append_left (by simp; omega)]
        simp [a]
      rw [this]; exact b
    · rw [if_neg (by omega)]
      have : (args'.toArray ++ Array.replicate (n - args'.toArray.size) undef).getD i undef = undef := by
        rw [Array.getD_eq_getD_getElem?, Array.getElem?_append_right (by simp; omega)]
        rw [Array.getElem?_replicate]
        split <;> rfl
      rw [this]
      exact .tup [] [] .nil
  · rw [bindA_get, if_neg (by omega)]; rfl

theorem callFunc_enter {k : Nat} {fn : Func} {c : Code} {args : Array Value} (hf : P.funcs[k]? = some fn) (hn : (fn.name == "runtime.NumGoroutine") = false) (hb : fn.body = some c) : (callFunc k args).run P w = .ok (.enter k args) w := by
  simp only [callFunc, Sem.run_bind, program, Sem.run, Result.andThen_ok, hf, hn, hb, Option.isNone_some, Bool.false_eq_true, if_false, Sem.run_pure]
theorem frame_enter {k : Nat} {fn : Func} {c : Code} {args : Array Value} (hf : P.funcs[k]? = some fn) (hb : fn.body = some c) (kind : CallKind) :
    Frame.enter P k args kind = frm { (default : Frame) with fn := k, kind } (args ++ Array.replicate (fn.ntmps - args.size) undef) [] [.code c] := by
  simp only [Frame.enter, frm, hf, hb, Option.map_some, Option.getD_some, Option.bind_some]
  rfl

theorem st_leave {b : Frame} {tmps : Array Value} {ds : List Deferred} {cs : List Frame} (hb : b.roundOf = none) : step P (lone (frm b tmps ds []) cs w) = .next (lone { frm b tmps ds [] with mode := .returning } cs w) := step_lone_go (by simp [stepG, stepG.exec, frm, hb])
theorem st_ret {b : Frame} {tmps : Array Value} {ds : List Deferred} {cs : List Frame} {k : List Item} (hb : b.roundOf = none) : step P (lone (frm b tmps ds (.code .ret :: k)) cs w) = .next (lone { frm b tmps ds (.code .ret :: k) with mode := .returning } cs w) :=
  step_lone_go (by simp [stepG, stepG.exec, frm, hb])

/-- A FUNCTION -/
theorem enterF_sound {K : Known} (hK : KOk P G K) (hcode : SCode P G R) (hdef : SDefers P G R) {k : Nat} {args : List V} {v : V} {h' : H} (e : enterF P R K k args h = some (v, h')) (hr : HR P ρ h w) (hc : Ctx P G ρ h) {args' : List Value} (ha : VRs ρ args args') :
    ∃ ρ' v' w', Ext ρ h w ρ' h' w' ∧ HR P ρ' h' w' ∧ VR ρ' v v' ∧ Calling P (callFunc k args'.toArray) w v' w' := by
  unfold enterF at e
  generalize hfn : K.fn k = ofn at e
  cases ofn with
  | none => cases e
  | some fn =>
    simp only at e
    obtain ⟨hf, hname⟩ := hK.fn k fn hfn
    generalize hb : fn.body = ob at e
    cases ob with
    | none =>
      obtain ⟨rfl, v', q1, q2⟩ := hK.ext k fn args v h h' hfn hb e ρ w args' ha
      exact ⟨ρ, v', w, Ext.refl _ _ _, hr, q2, .value v', w, q1, rfl, rfl⟩
    | some c =>
      simp only at e
      generalize hle : Nat.ble (llen args) fn.ntmps = ok at e
      cases ok with
      | false => cases e
      | true =>
        rw [llen_eq, ble_nat] at hle
        simp only at e
        obtain ⟨⟨x, id, f1⟩, h1, e1, e2⟩ := bind_some e
        obtain ⟨ht, hlow⟩ := args_tm ha hle
        let b : Frame := { (default : Frame) with fn := k }
        have hfr : FR ρ b { tm := bindA args 0 .e, n := fn.ntmps, fn := k, defers := [], rd := none } (args'.toArray ++ Array.replicate (fn.ntmps - args'.toArray.size) undef) [] := ⟨ht, hlow, rfl, rfl, .nil⟩
        obtain ⟨ρ1, tmps1, ds1, w1, x1, r1, fr1, s1⟩ := hcode _ _ _ _ _ _ _ e1 ρ w b _ [] hr hc hfr
        have hx : x ≠ 1 := by rintro rfl; cases e2
        have e3 : leaveF P R fn f1 h1 = some (v, h') := by
          match x, hx, e2 with
          | 0, _, e2 => exact e2
          | 1, hx, _ => exact absurd rfl hx
          | _ + 2, _, e2 => exact e2
        unfold leaveF at e3
        obtain ⟨_, h2, e4, e5⟩ := bind_some e3
        obtain ⟨vs, h3, e6, e7⟩ := bind_some e5
        obtain ⟨rfl, rfl⟩ := pure_some e7
        obtain ⟨ρ2, w2, x2, r2, s2⟩ := hdef _ _ _ _ e4 ρ1 w1 ds1 r1 (hc.ext x1) fr1.ds
        have fr2 := fr1.mono x2.le
        obtain ⟨rfl, v', q1, q2⟩ := results_sound (fn := fn) (fun t => tmp_sound fr2.tm t (fr2.low t)) r2 e6
        refine ⟨ρ2, v', w2, x1.trans x2, r2, q2, .enter k args'.toArray, w, callFunc_enter hf hname hb, fun kind cs hcs => ?_⟩
        rw [frame_enter hf hb] at hcs ⊢
        let bk : Frame := { (default : Frame) with fn := k, kind }
        have hal : Alike b bk := ⟨rfl, rfl⟩
        have q3 := s1 bk hal [] cs hcs
        have hx2 : (x = 0 ∧ Steps P (lone (frm bk (args'.toArray ++ Array.replicate (fn.ntmps - args'.toArray.size) undef) [] [.code c]) cs w) (lone (frm bk tmps1 ds1 []) cs w1)) ∨
            ∃ k', Steps P (lone (frm bk (args'.toArray ++ Array.replicate (fn.ntmps - args'.toArray.size) undef) [] [.code c]) cs w) (lone (frm bk tmps1 ds1 (.code .ret :: k')) cs w1) := by
          match x, hx, q3 with
          | 0, _, q3 => exact .inl ⟨rfl, q3⟩
          | 1, hx, _ => exact absurd rfl hx
          | _ + 2, _, q3 => exact .inr q3
        rcases hx2 with ⟨_, q4⟩ | ⟨k', q4⟩
        · refine ⟨{ frm bk tmps1 ds1 [] with mode := .returning, defers := [] }, (q4.trans (.one (st_leave rfl))).trans (s2 { frm bk tmps1 ds1 [] with mode := .returning } cs rfl), rfl, rfl, rfl, rfl, fn, hf, q1⟩
        · refine ⟨{ frm bk tmps1 ds1 (.code .ret :: k') with mode := .returning, defers := [] }, (q4.trans (.one (st_ret rfl))).trans (s2 { frm bk tmps1 ds1 (.code .ret :: k') with mode := .returning } cs rfl), rfl, rfl, rfl, rfl, fn, hf, q1⟩

theorem callF_sound {K : Known} (hK : KOk P G K) (hcode : SCode P G R) (hdef : SDefers P G R) (hs : SCall P G R) : ∀ f args (h : H) v h', callF P R K f args h = some (v, h') → ∀ ρ w f' args', HR P ρ h w → Ctx P G ρ h → VR ρ f f' → VRs ρ args args' →
    ∃ ρ' v' w', Ext ρ h w ρ' h' w' ∧ HR P ρ' h' w' ∧ VR ρ' v v' ∧ Calling P (inv f' args'.toArray) w v' w' := by
  intro f args h v h' e ρ w f' args' hr hc hf ha
  unfold callF at e
  cases hf with
  | yield l loc hl =>
    simp only at e
    obtain ⟨ρ', v', w', a, b, c, d⟩ := yieldF_sound hcode e hr hc hl ha
    refine ⟨ρ', v', w', a, b, c, d.congr ?_⟩
    simp only [inv, Deferred.ofValue, Sem.run_bind, Sem.run_pure, Result.andThen_ok, invoke]
    simp
  | fn fn a c a' c' hfn hfa hfc =>
    cases fn with
    | func k =>
      simp only [lapp_eq] at e
      have hall := hfa.append (ha.append hfc)
      have hrun : (inv (.func (.func k) a'.toArray c'.toArray) args'.toArray).run P w = (callFunc k (a' ++ (args' ++ c')).toArray).run P w := by
        rw [inv_func]
        congr 2
        simp
      generalize hsum : K.sum k (a ++ (args ++ c)) = os at e
      cases os with
      | some v1 =>
        obtain ⟨rfl, rfl⟩ := pure_some e
        obtain ⟨v', w', x, y, z, q⟩ := hK.sum _ _ _ hsum ρ _ w _ hr hc hall
        exact ⟨ρ, v', w', x, y, z, q.congr hrun⟩
      | none =>
        obtain ⟨ρ', v', w', x, y, z, q⟩ := enterF_sound hK hcode hdef e hr hc hall
        exact ⟨ρ', v', w', x, y, z, q.congr hrun⟩
    | method name =>
      simp only [lapp_eq] at e
      have hall := hfa.append ha
      generalize hl : a ++ args = l at e hall
      generalize hl0 : a' ++ args' = l0 at hall
      cases hall with
      | nil => cases e
      | cons v0 v0' l l' hv hl' =>
        cases v0 with
        | iface t x =>
          simp only at e
          obtain ⟨x', hx', hxx⟩ := hv.iface_inv
          generalize hmk : methodF P t name = mk at e
          cases mk with
          | none => cases e
          | some k =>
            obtain ⟨ρ', v', w', q1, q2, q3, q4⟩ := hs _ _ _ _ _ e ρ w (.func (.func k) #[] #[]) _ hr hc (.fn (.func k) [] [] [] [] (fun _ h => by cases h) .nil .nil) (.cons _ _ _ _ hxx hl')
            refine ⟨ρ', v', w', q1, q2, q3, q4.congr ?_⟩
            rw [inv_func]
            have harr : a'.toArray ++ args'.toArray = (v0' :: l').toArray := by rw [← hl0]; simp
            have hz : (v0' :: l').toArray[0]? = some (.iface t x') := by rw [← hx']; rfl
            simp only [inv, Deferred.ofValue, Sem.run_bind, Sem.run_pure, Result.andThen_ok, invoke, harr, hz]
            rw [callMethod_run hmk]
            congr 2
            simp
        | _ => cases e
    | _ => cases e
  | _ => cases e

/-- a level's parts -/
structure SAll (P : Program) (G : Nat → Option (List V)) (R : Recs) : Prop where
  good : GoodR R
  call : SCall P G R
  ops : SOps P G R
  code : SCode P G R
  defers : SDefers P G R
  draw : SDraw P R
/-- THE EVALUATOR IS SOUND -/
theorem sound {K : Known} (hm : P.follows .mixedOrders = true) (hK : KOk P G K) : ∀ n, SAll P G (evN P K n)
  | 0 => ⟨goodR P K 0, fun _ _ _ _ _ e => by (cases e), fun _ _ _ _ _ _ e => by (cases e), fun _ _ _ _ _ _ _ e => by (cases e), fun _ _ _ _ e => by (cases e), fun all s l f => draw_run K all s 0 l f⟩
  | n + 1 =>
    let ih := sound hm hK n
    ⟨goodR P K (n + 1), callF_sound hK ih.code ih.defers ih.call, fun _ _ _ _ _ _ e _ _ _ _ _ hr hc hf => opsF_sound ih.call ih.ops e hr hc hf,
      fun _ _ _ _ _ _ _ e _ _ _ _ _ hr hc hf => codeF_sound hm ih.good ih.call ih.ops ih.draw ih.code (fun e _ _ _ _ _ hr hc hf => rangeF_sound ih.call e hr hc hf) e hr hc hf,
      fun _ _ _ _ e _ _ _ hr hc hl => defersF_sound ih.call ih.defers e hr hc hl, fun all s l f => draw_run K all s (n + 1) l f⟩
end Go.Ev
/- Calls that are known: a call with plain arguments, run once from nothing, is the same wherever it stands. -/
namespace Go.Ev
open Go
variable {P : Program} {ρ : Rn} {h : H} {w : World}

noncomputable section
/-- the variables' blocks -/
def bsOf (l : List (List V)) : Nat → T B := List.rec (motive := fun _ => Nat → T B) (fun _ => .e) (fun r _ g i => (g (i + 1)).set i (.ro r)) l
def baseH (l : List (List V)) : H := .mk (llen l) 0 0 (bsOf l 0) .e
def gOf (l : List (List V)) : Nat → Option (List V) := fun i => l[i]?

/-- a value without a place -/
def flat1 (v : V) : Bool := match v with
  | .bool _ => true
  | .int _ _ => true
  | .str _ _ => true
  | .nilp => true
  | .nils => true
  | .nilm => true
  | .nilf => true
  | .nili => true
  | .rng _ _ _ => true
  | _ => false
def flatL (l : List V) : Bool := List.rec (motive := fun _ => Bool) true (fun v _ g => match flat1 v with
  | true => g
  | false => false) l
def flatA (v : V) : Bool := match v with
  | .agg l => flatL l
  | v => flat1 v
def flatAs (l : List V) : Bool := List.rec (motive := fun _ => Bool) true (fun v _ g => match flatA v with
    | true => g
    | false => false) l
def flat (v : V) : Bool := match v with
  | .tup l => flatAs l
  | v => flatA v
def flats (l : List V) : Bool := List.rec (motive := fun _ => Bool) true (fun v _ g => match flat v with
  | true => g
  | false => false) l
def eq1 (x y : V) : Bool := match x, y with
  | .bool a, .bool b => beq a b
  | .int k a, .int j b => match sameK k j with
    | true => ieq a b
    | false => false
  | .str a n, .str b m => match Nat.beq n m with
    | true => leq a b
    | false => false
  | .nilp, .nilp => true
  | .nils, .nils => true
  | .nilm, .nilm => true
  | .nilf, .nilf => true
  | .nili, .nili => true
  | _, _ => false
def eqL (a b : List V) : Bool := List.rec (motive := fun _ => List V → Bool)
  (fun m => match m with | [] => true | _ :: _ => false)
  (fun x _ g m => match m with | [] => false | y :: m => match eq1 x y with | true => g m | false => false) a b
def eqA (x y : V) : Bool := match x, y with
  | .agg a, .agg b => eqL a b
  | .agg _, _ => false
  | x, y => eq1 x y
def eqAs (a b : List V) : Bool := List.rec (motive := fun _ => List V → Bool)
  (fun m => match m with | [] => true | _ :: _ => false)
  (fun x _ g m => match m with | [] => false | y :: m => match eqA x y with | true => g m | false => false) a b
def eqR (x y : V) : Bool := match x, y with
  | .tup a, .tup b => eqAs a b
  | .tup _, _ => false
  | x, y => eqA x y
abbrev Ent := Nat × List V × V
abbrev Tab := T (List Ent)
/-- where a call is looked for -/
def keyA (k : Nat) (args : List V) : Nat := match args with
  | .str _ n :: _ => k + 512 * n
  | _ => k
def lookF (k : Nat) (args : List V) (l : List Ent) : Option V := List.rec (motive := fun _ => Option V) none (fun e _ g => match Nat.beq k e.1 with
  | true => match eqAs args e.2.1 with
    | true => some e.2.2
    | false => g
  | false => g) l
def sumT (t : Tab) (k : Nat) (args : List V) : Option V := match t.get (keyA k args) with
  | some l => lookF k args l
  | none => none
def addT (t : Tab) (e : Ent) : Tab := match t.get (keyA e.1 e.2.1) with
  | some l => t.set (keyA e.1 e.2.1) (e :: l)
  | none => t.set (keyA e.1 e.2.1) [e]
def insT (l : List Ent) (t : Tab) : Tab := List.rec (motive := fun _ => Tab) t (fun e _ g => addT g e) l
/-- comes a call to this value? -/
def runOk (P : Program) (K : Known) (n : Nat) (l : List (List V)) (k : Nat) (args : List V) (v : V) : Bool := match (evN P K n).call (.fn (.func k) [] []) args (baseH l) with
  | some x => eqR x.1 v
  | none => false
def okE (P : Program) (K : Known) (n : Nat) (l : List (List V)) (e : Ent) : Bool := match flats e.2.1, flat e.2.2 with
  | true, true => runOk P K n l e.1 e.2.1 e.2.2
  | _, _ => false
def okL (P : Program) (K : Known) (n : Nat) (l : List (List V)) (es : List Ent) : Bool := List.rec (motive := fun _ => Bool) true (fun e _ g => match okE P K n l e with
  | true => g
  | false => false) es
end

theorem bsOf_cons (r : List V) (l : List (List V)) (i : Nat) : bsOf (r :: l) i = (bsOf l (i + 1)).set i (.ro r) := rfl
theorem bsOf_get : ∀ (l : List (List V)) (i j : Nat), (bsOf l i).get j = if i ≤ j then (l[j - i]?).map .ro else none
  | [], i, j => by
    show (T.e : T B).get j = _
    simp [T.get_e]
  | r :: l, i, j => by
    rw [bsOf_cons]
    by_cases e : j = i
    · subst e; rw [T.get_set_same]; simp
    · rw [T.get_set_ne _ _ e, bsOf_get l (i + 1) j]
      by_cases h1 : i ≤ j
      · rw [if_pos (by omega), if_pos h1]
        have : j - i = (j - (i + 1)) + 1 := by omega
        rw [this]; simp
      · rw [if_neg (by omega), if_neg h1]
theorem base_get (l : List (List V)) (j : Nat) : (baseH l).bs.get j = (l[j]?).map .ro := by
  show (bsOf l 0).get j = _
  rw [bsOf_get]; simp

theorem flatL_cons (v : V) (l : List V) : flatL (v :: l) = (match flat1 v with | true => flatL l | false => false) := rfl
theorem flatL_all : ∀ {l : List V}, flatL l = true → ∀ v ∈ l, flat1 v = true
  | [], _, v, hv => by cases hv
  | a :: l, h, v, hv => by
    rw [flatL_cons] at h
    cases ha : flat1 a with
    | false => rw [ha] at h; cases h
    | true =>
      rw [ha] at h
      rcases List.mem_cons.1 hv with rfl | hv
      · exact ha
      · exact flatL_all h v hv
theorem VR.flat1 {ρ' : Rn} {v : V} {v' : Value} (h : VR ρ v v') (hf : Ev.flat1 v = true) : VR ρ' v v' := by
  cases h <;> first | (cases hf; done) | constructor
  all_goals assumption
theorem VRs.flatAll {ρ' : Rn} : ∀ {l : List V} {l' : List Value}, VRs ρ l l' → (∀ v ∈ l, ∀ v', VR ρ v v' → VR ρ' v v') → VRs ρ' l l'
  | _, _, .nil, _ => .nil
  | _, _, .cons v v' l l' h hs, hf => .cons _ _ _ _ (hf v (List.mem_cons_self ..) v' h) (VRs.flatAll hs fun x hx => hf x (List.mem_cons_of_mem _ hx))
theorem VR.flatA {ρ' : Rn} {v : V} {v' : Value} (h : VR ρ v v') (hf : Ev.flatA v = true) : VR ρ' v v' := by
  cases h with
  | agg l l' hl h1 => exact .agg _ _ (hl.flatAll fun x hx x' hxx => hxx.flat1 (flatL_all hf x hx)) h1
  | bool b => exact .bool b
  | int k n => exact .int k n
  | str l n s a b => exact .str l n s a b
  | nilp => exact .nilp
  | nils => exact .nils
  | nilm => exact .nilm
  | nilf => exact .nilf
  | nili => exact .nili
  | rng k lo hi n h1 h2 => exact .rng k lo hi n h1 h2
  | _ => cases hf
theorem flatAs_cons (v : V) (l : List V) : flatAs (v :: l) = (match Ev.flatA v with | true => flatAs l | false => false) := rfl
theorem flatAs_all : ∀ {l : List V}, flatAs l = true → ∀ v ∈ l, Ev.flatA v = true
  | [], _, v, hv => by cases hv
  | a :: l, h, v, hv => by
    rw [flatAs_cons] at h
    cases ha : Ev.flatA a with
    | false => rw [ha] at h; cases h
    | true =>
      rw [ha] at h
      rcases List.mem_cons.1 hv with rfl | hv
      · exact ha
      · exact flatAs_all h v hv
theorem VR.flat {ρ' : Rn} {v : V} {v' : Value} (h : VR ρ v v') (hf : Ev.flat v = true) : VR ρ' v v' := by
  cases h with
  | tup l l' hl => exact .tup _ _ (hl.flatAll fun x hx x' hxx => hxx.flatA (flatAs_all hf x hx))
  | agg l l' hl h1 => exact (VR.agg l l' hl h1).flatA hf
  | bool b => exact .bool b
  | int k n => exact .int k n
  | str l n s a b => exact .str l n s a b
  | nilp => exact .nilp
  | nils => exact .nils
  | nilm => exact .nilm
  | nilf => exact .nilf
  | nili => exact .nili
  | rng k lo hi n h1 h2 => exact .rng k lo hi n h1 h2
  | _ => cases hf
theorem flats_cons (v : V) (l : List V) : flats (v :: l) = (match Ev.flat v with | true => flats l | false => false) := rfl
theorem flats_all : ∀ {l : List V}, flats l = true → ∀ v ∈ l, Ev.flat v = true
  | [], _, v, hv => by cases hv
  | a :: l, h, v, hv => by
    rw [flats_cons] at h
    cases ha : Ev.flat a with
    | false => rw [ha] at h; cases h
    | true =>
      rw [ha] at h
      rcases List.mem_cons.1 hv with rfl | hv
      · exact ha
      · exact flats_all h v hv
theorem VRs.flats {ρ' : Rn} {l : List V} {l' : List Value} (h : VRs ρ l l') (hf : Ev.flats l = true) : VRs ρ' l l' := h.flatAll fun v hv _ hvv => hvv.flat (flats_all hf v hv)

theorem eq1_eq {x y : V} (h : eq1 x y = true) : x = y := by
  unfold eq1 at h
  split at h <;> first | rfl | (cases h; done) | skip
  · rename_i a b; rw [beq_eq] at h; simp at h; rw [h]
  · rename_i k a j b
    split at h
    · rename_i hk; rw [ieq_eq] at h; simp at h; rw [sameK_eq hk, h]
    · cases h
  · rename_i a n b m
    split at h
    · rename_i hn; rw [beq_nat.1 hn, (leq_iff _ _).1 h]
    · cases h
theorem eqL_eq : ∀ {a b : List V}, eqL a b = true → a = b
  | [], [], _ => rfl
  | [], _ :: _, h => by cases h
  | _ :: _, [], h => by cases h
  | x :: a, y :: b, h => by
    change (match eq1 x y with | true => eqL a b | false => false) = true at h
    cases hq : eq1 x y with
    | false => rw [hq] at h; cases h
    | true => rw [hq] at h; rw [eq1_eq hq, eqL_eq h]
theorem eqA_eq {x y : V} (h : eqA x y = true) : x = y := by
  unfold eqA at h
  split at h
  · rw [eqL_eq h]
  · cases h
  · exact eq1_eq h
theorem eqAs_eq : ∀ {a b : List V}, eqAs a b = true → a = b
  | [], [], _ => rfl
  | [], _ :: _, h => by cases h
  | _ :: _, [], h => by cases h
  | x :: a, y :: b, h => by
    change (match eqA x y with | true => eqAs a b | false => false) = true at h
    cases hq : eqA x y with
    | false => rw [hq] at h; cases h
    | true => rw [hq] at h; rw [eqA_eq hq, eqAs_eq h]
theorem eqR_eq {x y : V} (h : eqR x y = true) : x = y := by
  unfold eqR at h
  split at h
  · rw [eqAs_eq h]
  · cases h
  · exact eqA_eq h

/-- a call that is known -/
def FactOk (P : Program) (G : Nat → Option (List V)) (k : Nat) (l : List V) (v : V) : Prop :=
  ∀ ρ (h : H) w l', HR P ρ h w → Ctx P G ρ h → VRs ρ l l' → ∃ v' w', Ext ρ h w ρ h w' ∧ HR P ρ h w' ∧ VR ρ v v' ∧ Calling P (callFunc k l'.toArray) w v' w'
def AllF (P : Program) (G : Nat → Option (List V)) (l : List Ent) : Prop := ∀ e ∈ l, FactOk P G e.1 e.2.1 e.2.2
structure TabOk (P : Program) (G : Nat → Option (List V)) (t : Tab) : Prop where
  ok : ∀ key l, t.get key = some l → AllF P G l
theorem TabOk.e {G : Nat → Option (List V)} : TabOk P G .e := ⟨fun _ _ h => by cases h⟩
theorem TabOk.add {G : Nat → Option (List V)} {t : Tab} (ht : TabOk P G t) {e : Ent} (he : FactOk P G e.1 e.2.1 e.2.2) : TabOk P G (addT t e) := by
  refine ⟨fun key l h => ?_⟩
  unfold addT at h
  generalize hq : t.get (keyA e.1 e.2.1) = q at h
  cases q with
  | none =>
    simp only at h
    by_cases hk : key = keyA e.1 e.2.1
    · subst hk
      rw [T.get_set_same] at h
      injection h with h; subst h
      intro x hx
      rcases List.mem_cons.1 hx with rfl | hx
      · exact he
      · cases hx
    · rw [T.get_set_ne _ _ hk] at h
      exact ht.ok key l h
  | some l0 =>
    simp only at h
    by_cases hk : key = keyA e.1 e.2.1
    · subst hk
      rw [T.get_set_same] at h
      injection h with h; subst h
      intro x hx
      rcases List.mem_cons.1 hx with rfl | hx
      · exact he
      · exact ht.ok _ _ hq x hx
    · rw [T.get_set_ne _ _ hk] at h
      exact ht.ok key l h
theorem insT_cons (e : Ent) (l : List Ent) (t : Tab) : insT (e :: l) t = addT (insT l t) e := rfl
theorem TabOk.ins {G : Nat → Option (List V)} {t : Tab} (ht : TabOk P G t) : ∀ {l : List Ent}, AllF P G l → TabOk P G (insT l t)
  | [], _ => ht
  | e :: l, h => by
    rw [insT_cons]
    exact (TabOk.ins ht (l := l) fun x hx => h x (List.mem_cons_of_mem _ hx)).add (h e (List.mem_cons_self ..))
theorem lookF_cons (k : Nat) (args : List V) (e : Ent) (l : List Ent) : lookF k args (e :: l) = (match Nat.beq k e.1 with
  | true => match eqAs args e.2.1 with
    | true => some e.2.2
    | false => lookF k args l
  | false => lookF k args l) := rfl
theorem lookF_ok {G : Nat → Option (List V)} {k : Nat} {args : List V} {v : V} : ∀ {l : List Ent}, AllF P G l → lookF k args l = some v → FactOk P G k args v
  | [], _, h => by cases h
  | e :: l, ha, h => by
    rw [lookF_cons] at h
    have tl := fun (q : lookF k args l = some v) => lookF_ok (fun x hx => ha x (List.mem_cons_of_mem _ hx)) q
    cases hk : Nat.beq k e.1 with
    | false => rw [hk] at h; exact tl h
    | true =>
      rw [hk] at h
      cases hq : eqAs args e.2.1 with
      | false => rw [hq] at h; exact tl h
      | true =>
        rw [hq] at h
        injection h with h; subst h
        rw [eqAs_eq hq, beq_nat.1 hk]
        exact ha e (List.mem_cons_self ..)
theorem sumT_ok {G : Nat → Option (List V)} {t : Tab} (ht : TabOk P G t) {k : Nat} {args : List V} {v : V} (h : sumT t k args = some v) : FactOk P G k args v := by
  unfold sumT at h
  generalize hq : t.get (keyA k args) = q at h
  cases q with
  | none => cases h
  | some x => exact lookF_ok (ht.ok _ _ hq) h

/-- from a heap to the variables' alone -/
theorem HR.base {l : List (List V)} (hl : l.length = P.globals.size) (hfl : ∀ r ∈ l, flatL r = true) (hr : HR P ρ h w) (hc : Ctx P (gOf l) ρ h) : HR P (fun i => if i < l.length then ρ i else none) (baseH l) w := by
  have hg : ∀ i, i < l.length → ∃ tot, ρ i = some ⟨i, 0, tot⟩ := fun i hi => hc.gl i (by omega)
  have nx : (baseH l).next = l.length := llen_eq l
  have get : ∀ {i b}, (baseH l).bs.get i = some b → i < l.length ∧ ∃ r, l[i]? = some r ∧ b = .ro r := by
    intro i b hb
    rw [base_get] at hb
    cases hq : l[i]? with
    | none => rw [hq] at hb; cases hb
    | some r =>
      rw [hq] at hb
      injection hb with hb
      refine ⟨?_, r, rfl, hb.symm⟩
      rcases Nat.lt_or_ge i l.length with q | q
      · exact q
      · rw [List.getElem?_eq_none q] at hq; cases hq
  refine ⟨fun i => ?_, ?_, ?_, ?_, ?_, ?_, ?_, ?_⟩
  · constructor
    · rintro ⟨loc, h1⟩
      by_cases hi : i < l.length
      · exact ⟨.ro l[i], by rw [base_get, List.getElem?_eq_getElem hi]; rfl⟩
      · rw [if_neg hi] at h1; cases h1
    · rintro ⟨b, hb⟩
      obtain ⟨hi, _⟩ := get hb
      obtain ⟨tot, e⟩ := hg i hi
      exact ⟨_, by rw [if_pos hi]; exact e⟩
  · intro i b hb; rw [nx]; exact (get hb).1
  · intro i loc hi
    split at hi
    · exact hr.inb i loc hi
    · cases hi
  · intro i b loc hb _ hρ
    obtain ⟨hi, r, h1, rfl⟩ := get hb
    rw [if_pos hi] at hρ
    have hbs := hc.ro i r h1
    obtain ⟨q1, q2, q3⟩ := hr.blk i _ loc hbs trivial hρ
    refine ⟨q1, q2, q3.imp id ?_⟩
    rintro ⟨cs, e, fz, a, b⟩
    refine ⟨cs, e, fz, a, fun j v hj => ?_⟩
    obtain ⟨v', c, d⟩ := b j v hj
    exact ⟨v', c, d.flat1 (flatL_all (hfl r (List.mem_of_getElem? h1)) v (List.mem_of_getElem? hj))⟩
  · intro i j b c li lj hb hc' _ _ hi hj e
    obtain ⟨h1, _⟩ := get hb
    obtain ⟨h2, _⟩ := get hc'
    rw [if_pos h1] at hi
    rw [if_pos h2] at hj
    obtain ⟨t1, e1⟩ := hg i h1
    obtain ⟨t2, e2⟩ := hg j h2
    rw [e1] at hi; injection hi with hi; subst hi
    rw [e2] at hj; injection hj with hj; subst hj
    exact .inl e
  · intro k a l' fz b c la ll hk
    cases hk
  · intro i b hb
    obtain ⟨_, r, _, rfl⟩ := get hb
    exact Nat.zero_le _
  · exact Nat.zero_le _

/-- A CALL THAT WAS RUN FROM THE VARIABLES ALONE -/
theorem fact_of_run {K : Known} (hm : P.follows .mixedOrders = true) {l : List (List V)} (hl : l.length = P.globals.size) (hfl : ∀ r ∈ l, flatL r = true) (hK : KOk P (gOf l) K) {n k : Nat} {args : List V} {v : V}
    (ha : flats args = true) (hv : Ev.flat v = true) (e : runOk P K n l k args v = true) : FactOk P (gOf l) k args v := by
  intro ρ h w l' hr hc hvs
  unfold runOk at e
  generalize hq : (evN P K n).call (.fn (.func k) [] []) args (baseH l) = q at e
  cases q with
  | none => cases e
  | some x =>
    obtain ⟨v1, h1⟩ := x
    have ev : v1 = v := eqR_eq e
    subst ev
    have hr0 := hr.base hl hfl hc
    have hc0 : Ctx P (gOf l) (fun i => if i < l.length then ρ i else none) (baseH l) := by
      refine ⟨fun g hg => ?_, fun g r hg => ?_⟩
      · obtain ⟨tot, q⟩ := hc.gl g hg
        exact ⟨tot, by rw [if_pos (by omega)]; exact q⟩
      · have hg' : l[g]? = some r := hg
        rw [base_get, hg']; rfl
    obtain ⟨ρ1, v', w1, x1, r1, vr, call⟩ := (sound hm hK n).call _ _ _ _ _ hq _ w (.func (.func k) #[] #[]) l' hr0 hc0 (.fn (.func k) [] [] [] [] (fun _ h => by cases h) .nil .nil) (hvs.flats ha)
    have keep : ∀ c, c < w.heap.size → w1.heap[c]? = w.heap[c]? := fun c hcs => x1.same c hcs fun i loc hi _ => by
      by_cases hil : i < l.length
      · exact ⟨l[i], by rw [base_get, List.getElem?_eq_getElem hil]; rfl⟩
      · rw [if_neg hil] at hi; cases hi
    refine ⟨v', w1, ⟨Rn.le_refl ρ, x1.size, fun c hcs _ => keep c hcs, fun _ _ q => .inl q, fun _ _ q => q, x1.os, x1.output, x1.tape⟩, ⟨hr.dom, hr.lt, fun i loc hi => Nat.lt_of_lt_of_le (hr.inb i loc hi) x1.size, fun i b loc hb hlv hρ => ?_, hr.apart, hr.chain, hr.cls, hr.gs⟩, vr.flat hv, call.congr ?_⟩
    · exact (hr.blk i b loc hb hlv hρ).mono P (Rn.le_refl ρ) (keep _ (hr.inb i loc hρ)) (fun _ _ _ a l _ hk => ⟨a, l, hk⟩)
    · rw [inv_func]; congr 2; simp

theorem fact_of_ok {K : Known} (hm : P.follows .mixedOrders = true) {l : List (List V)} (hl : l.length = P.globals.size) (hfl : ∀ r ∈ l, flatL r = true) (hK : KOk P (gOf l) K) {n : Nat} {e : Ent} (h : okE P K n l e = true) : FactOk P (gOf l) e.1 e.2.1 e.2.2 := by
  unfold okE at h
  generalize h1 : flats e.2.1 = a at h
  generalize h2 : Ev.flat e.2.2 = b at h
  match a, b, h1, h2, h with
  | true, true, h1, h2, h => exact fact_of_run hm hl hfl hK h1 h2 h
theorem okL_cons (K : Known) (n : Nat) (l : List (List V)) (e : Ent) (es : List Ent) : okL P K n l (e :: es) = (match okE P K n l e with | true => okL P K n l es | false => false) := rfl
/-- calls that were run, all of a list -/
theorem facts_of_ok {K : Known} (hm : P.follows .mixedOrders = true) {l : List (List V)} (hl : l.length = P.globals.size) (hfl : ∀ r ∈ l, flatL r = true) (hK : KOk P (gOf l) K) {n : Nat} : ∀ {es : List Ent}, okL P K n l es = true → AllF P (gOf l) es
  | [], _ => fun _ hx => by cases hx
  | e :: es, h => by
    rw [okL_cons] at h
    cases hq : okE P K n l e with
    | false => rw [hq] at h; cases h
    | true =>
      rw [hq] at h
      intro x hx
      rcases List.mem_cons.1 hx with rfl | hx
      · exact fact_of_ok hm hl hfl hK hq
      · exact facts_of_ok hm hl hfl hK h x hx
end Go.Ev
/- Two functions without a body. -/
namespace Go.Ev
open Go
variable {P : Program} {ρ : Rn} {w : World}

theorem extern_run {k : Nat} {fn : Func} {e : Array Value → Sem Value} {args : Array Value} (hf : P.funcs[k]? = some fn) (hname : (fn.name == "runtime.NumGoroutine") = false) (hb : fn.body = none) (hn : Extern.findNext fn = none)
    (he : Extern.find fn = some e) : (callFunc k args).run P w = ((e args).run P w).andThen fun v w => .ok (.value v) w := by
  simp only [callFunc, Sem.run_bind, program, Sem.run, Result.andThen_ok, hf, hname, hb, Option.isNone_none, Bool.false_eq_true, if_false, if_true, hn, he, mark]
  rfl

theorem findByte_cons (c a : Nat) (l : List Nat) (i : Nat) : findByte c (a :: l) i = (match Nat.beq a c with | true => .ofNat i | false => findByte c l (i + 1)) := rfl
theorem findByte_eq (c : UInt8) : ∀ (l : List UInt8) (i : Nat), findByte c.toNat (l.map (·.toNat)) i = (match l.findIdx? (· == c) with | some j => Int.ofNat (i + j) | none => .negSucc 0)
  | [], _ => rfl
  | a :: l, i => by
    rw [List.map_cons, findByte_cons, List.findIdx?_cons]
    by_cases h : a = c
    · subst h
      rw [beq_nat.2 rfl]; simp
    · have h2 : a.toNat ≠ c.toNat := fun e => h (UInt8.toNat_inj.1 e)
      rw [beq_nat_false.2 h2]
      have h3 : (a == c) = false := by simpa using h
      simp only [h3, Bool.false_eq_true, if_false]
      rw [findByte_eq c l (i + 1)]
      cases l.findIdx? (· == c) with
      | none => rfl
      | some j => show Int.ofNat (i + 1 + j) = Int.ofNat (i + (j + 1)); congr 1; omega
theorem range_find {α : Type} (p : α → Bool) : ∀ (l : List α) (n : Nat) (q : Nat → Bool), (∀ i (h : i < l.length), q (n + i) = p l[i]) → (List.range' n l.length).find? q = (l.findIdx? p).map (n + ·)
  | [], _, _, _ => rfl
  | a :: l, n, q, hq => by
    rw [List.length_cons, List.range'_succ, List.find?_cons, List.findIdx?_cons]
    have h0 := hq 0 (by simp)
    simp only [Nat.add_zero, List.getElem_cons_zero] at h0
    rw [h0]
    cases hp : p a with
    | true => simp
    | false =>
      simp only [Bool.false_eq_true, if_false]
      rw [range_find p l (n + 1) q (fun i hi => by have := hq (i + 1) (by simpa using hi); simpa [Nat.add_assoc, Nat.add_comm 1 i] using this)]
      cases l.findIdx? p with
      | none => rfl
      | some j => simp; omega

theorem indexByte_sound {l : List V} {l' : List Value} {v : V} {h h' : H} (e : extV 1 l h = some (v, h')) (hl : VRs ρ l l') : h' = h ∧ ∃ v', (Extern.BytealgIndexByte.indexByte l'.toArray).run P w = .ok v' w ∧ VR ρ v v' := by
  match l, hl, e with
  | [.str s n, .int .u8 (.ofNat c)], .cons _ _ _ _ hs (.cons _ _ _ _ hc .nil), e =>
    obtain ⟨s', rfl, hs', _⟩ := hs.str_inv
    have hc' := hc.int_inv
    subst hc'
    have e2 : (match Nat.blt c 256 with
      | true => M.pure (V.int .i64 (findByte c s 0))
      | false => (M.fail : M V)) h = some (v, h') := e
    cases hb : Nat.blt c 256 with
    | false => rw [hb] at e2; cases e2
    | true =>
      rw [hb] at e2
      obtain ⟨rfl, rfl⟩ := pure_some e2
      refine ⟨rfl, ?_⟩
      have hlt := blt_nat.1 hb
      have hcn : c.toUInt8.toNat = c := by simp [hlt]
      have hfind : (List.range s'.size).find? (fun i => s'[i]! == c.toUInt8) = s'.data.toList.findIdx? (· == c.toUInt8) := by
        have hsz : s'.size = s'.data.toList.length := by simp
        rw [hsz, List.range_eq_range', range_find (· == c.toUInt8) s'.data.toList 0 _ (fun i hi => ?_)]
        · cases s'.data.toList.findIdx? (· == c.toUInt8) <;> simp
        · have hi' : i < s'.size := by rw [hsz]; exact hi
          simp only [Nat.zero_add]
          congr 1
          rw [getElem!_pos s' i hi']
          simp
          rfl
      have hfb := findByte_eq c.toUInt8 s'.data.toList 0
      rw [hcn] at hfb
      subst hs'
      have hof : ofBytes s' = s'.data.toList.map (·.toNat) := rfl
      rw [hof, hfb]
      refine ⟨match s'.data.toList.findIdx? (· == c.toUInt8) with | some i => goInt i | none => goInt (-1), ?_, ?_⟩
      · have h1 : (Extern.Bytes.bytesOf (.string s')).run P w = .ok s' w := rfl
        have h2 : (Extern.Bytes.asByte (.int .u8 (.ofNat c))).run P w = .ok c.toUInt8 w := rfl
        refine (run_of_bind (a := Extern.Bytes.bytesOf (.string s')) rfl).trans ?_
        rw [h1]
        simp only [Result.andThen_ok]
        refine (run_of_bind (a := Extern.Bytes.asByte (.int .u8 (.ofNat c))) rfl).trans ?_
        rw [h2]
        simp only [Result.andThen_ok, hfind]
        cases s'.data.toList.findIdx? (· == c.toUInt8) <;> rfl
      · cases s'.data.toList.findIdx? (· == c.toUInt8) with
        | none => exact .int _ _
        | some j => simp only [Nat.zero_add]; exact .int _ _
theorem noEscape_sound {l : List V} {l' : List Value} {v : V} {h h' : H} (e : extV 2 l h = some (v, h')) (hl : VRs ρ l l') : h' = h ∧ ∃ v', (Extern.AbiNoEscape.same l'.toArray).run P w = .ok v' w ∧ VR ρ v v' := by
  match l, hl, e with
  | [x], .cons _ _ _ _ hx .nil, e =>
    obtain ⟨rfl, rfl⟩ := pure_some e
    exact ⟨rfl, _, rfl, hx⟩
end Go.Ev
/- A known call, at a world in which the variables hold what was taken. -/
namespace Go.Ev
open Go Go.RowKit
variable {P : Program} {ρ : Rn} {w : World}

theorem Calling.calls {k : Nat} {fn : Func} {c : Code} {args : Array Value} {v : Value} {w' : World} (h : Calling P (callFunc k args) w v w') (hf : P.funcs[k]? = some fn) (hn : (fn.name == "runtime.NumGoroutine") = false) (hb : fn.body = some c) :
    Calls P k args w fun e w2 => e = .returned v ∧ w2 = w' := by
  intro cs
  obtain ⟨nx, w1, h1, h2⟩ := h
  rw [callFunc_enter hf hn hb] at h1
  injection h1 with h1 h3
  subst h1; subst h3
  obtain ⟨fr, hs, hk, hfn, hm, hd, hres⟩ := h2 .normal cs (Calm.normal cs)
  exact ⟨.returned v, w', fr, ⟨rfl, rfl⟩, hs, hfn, hm, hd, hk, hres⟩

/-- the variables' blocks in a world -/
def BaseW (l : List (List V)) (w : World) : Prop := ∀ (i : Nat) (r : List V), l[i]? = some r → i < w.heap.size ∧ allOne r = true ∧ (r = [] ∨ ∃ cs e fz, w.heap[i]? = some (.cells cs e fz) ∧ ∀ (j : Nat) (v : V), r[j]? = some v → ∃ v', cs[j]? = some v' ∧ VR (fun _ => none) v v')
def rho0 (l : List (List V)) : Rn := fun i => if i < l.length then some ⟨i, 0, 0⟩ else none

theorem BaseW.hr {l : List (List V)} (hfl : ∀ r ∈ l, flatL r = true) (hw : BaseW l w) : HR P (rho0 l) (baseH l) w := by
  have nx : (baseH l).next = l.length := llen_eq l
  have get : ∀ {i b}, (baseH l).bs.get i = some b → i < l.length ∧ ∃ r, l[i]? = some r ∧ b = .ro r := by
    intro i b hb
    rw [base_get] at hb
    cases hq : l[i]? with
    | none => rw [hq] at hb; cases hb
    | some r =>
      rw [hq] at hb
      injection hb with hb
      refine ⟨?_, r, rfl, hb.symm⟩
      rcases Nat.lt_or_ge i l.length with q | q
      · exact q
      · rw [List.getElem?_eq_none q] at hq; cases hq
  have rh : ∀ {i loc}, rho0 l i = some loc → i < l.length ∧ loc = ⟨i, 0, 0⟩ := by
    intro i loc h
    unfold rho0 at h
    split at h
    · injection h with h; exact ⟨‹_›, h.symm⟩
    · cases h
  refine ⟨fun i => ?_, ?_, ?_, ?_, ?_, ?_, ?_, ?_⟩
  · constructor
    · rintro ⟨loc, h1⟩
      have hi := (rh h1).1
      exact ⟨.ro l[i], by rw [base_get, List.getElem?_eq_getElem hi]; rfl⟩
    · rintro ⟨b, hb⟩
      have hi := (get hb).1
      exact ⟨_, by unfold rho0; rw [if_pos hi]⟩
  · intro i b hb; rw [nx]; exact (get hb).1
  · intro i loc hi
    obtain ⟨h1, rfl⟩ := rh hi
    exact (hw i l[i] (List.getElem?_eq_getElem h1)).1
  · intro i b loc hb _ hρ
    obtain ⟨hi, r, h1, rfl⟩ := get hb
    obtain ⟨_, rfl⟩ := rh hρ
    obtain ⟨_, q2, q3⟩ := hw i r h1
    refine ⟨rfl, q2, q3.imp id ?_⟩
    rintro ⟨cs, e, fz, a, b⟩
    refine ⟨cs, e, fz, a, fun j v hj => ?_⟩
    obtain ⟨v', c, d⟩ := b j v hj
    exact ⟨v', by rw [Nat.zero_add]; exact c, d.flat1 (flatL_all (hfl r (List.mem_of_getElem? h1)) v (List.mem_of_getElem? hj))⟩
  · intro i j b c li lj hb hc' _ _ hi hj e
    obtain ⟨_, rfl⟩ := rh hi
    obtain ⟨_, rfl⟩ := rh hj
    exact .inl e
  · intro k a l' fz b c la ll hk
    cases hk
  · intro i b hb
    obtain ⟨_, r, _, rfl⟩ := get hb
    exact Nat.zero_le _
  · exact Nat.zero_le _

/-- A CALL OF THE PROGRAM -/
theorem calls_of_fact {l : List (List V)} (hl : l.length = P.globals.size) (hfl : ∀ r ∈ l, flatL r = true) {k : Nat} {fn : Func} {c : Code} (hf : P.funcs[k]? = some fn) (hn : (fn.name == "runtime.NumGoroutine") = false) (hb : fn.body = some c)
    {args : List V} {v : V} (h : FactOk P (gOf l) k args v) (hw : BaseW l w) {args' : List Value} (ha : VRs (fun _ => none) args args') (hfa : flats args = true) :
    Calls P k args'.toArray w fun e w' => ∃ v', e = .returned v' ∧ VR (rho0 l) v v' ∧ Below w.heap.size w w' := by
  have hr : HR P (rho0 l) (baseH l) w := hw.hr hfl
  have hc : Ctx P (gOf l) (rho0 l) (baseH l) := by
    refine ⟨fun g hg => ⟨0, by unfold rho0; rw [if_pos (by omega)]⟩, fun g r hg => ?_⟩
    have hg' : l[g]? = some r := hg
    rw [base_get, hg']; rfl
  obtain ⟨v', w', x, _, z, call⟩ := h (rho0 l) (baseH l) w args' hr hc (ha.flats hfa)
  refine (call.calls hf hn hb).mono ?_
  rintro e w2 ⟨rfl, rfl⟩
  refine ⟨v', rfl, z, x.os, x.tape, x.output, x.size, fun k hk => x.same k hk fun i loc hi _ => ?_⟩
  have hil : i < l.length := by
    unfold rho0 at hi
    split at hi
    · assumption
    · cases hi
  exact ⟨l[i], by rw [base_get, List.getElem?_eq_getElem hil]; rfl⟩
end Go.Ev
