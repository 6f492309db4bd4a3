/- THE EVALUATOR, part 4: a run of it, asked of the kernel, shows what the program comes to. Nothing of a program stands here. -/
import Derived.Orders
import Derived.Test.YtjimkmobdigfiaaGreatDoorEv2
set_option linter.unusedSimpArgs false
set_option linter.unusedVariables false
/- An operation looks at its operands alone. -/
namespace Go.Ev
open Go
variable {P : Program} {R : Recs}

theorem lmap_congr {α β : Type} {f g : α → β} {l : List α} (h : ∀ x ∈ l, f x = g x) : lmap f l = lmap g l := by
  rw [lmap_eq, lmap_eq]; exact List.map_congr_left h
theorem opds_congr {tm tm' : T V} {l : Array Operand} (h : ∀ x ∈ l, opd P tm x = opd P tm' x) : opds P tm l.toList = opds P tm' l.toList := lmap_congr fun x hx => h x (by simpa using hx)
theorem parts_congr {tm tm' : T V} {l : Array (Nat × Operand)} (h : ∀ x ∈ (l.toList.map (·.2)).toArray, opd P tm x = opd P tm' x) : parts P tm l.toList = parts P tm' l.toList :=
  lmap_congr fun p hp => by rw [h p.2 (by simp only [List.mem_toArray, List.mem_map]; exact ⟨p, hp, rfl⟩)]
theorem opdO_congr {tm tm' : T V} {x : Option Operand} (h : ∀ y ∈ x.toArray, opd P tm y = opd P tm' y) : opdO P tm x = opdO P tm' x := by
  cases x with
  | none => rfl
  | some x => simp only [opdO]; rw [h x (by simp)]

/-- two states of the variables that an operation cannot tell apart -/
def Same (P : Program) (tm tm' : T V) (o : Op) : Prop := ∀ x ∈ o.operands, opd P tm x = opd P tm' x

theorem callArgs {tm tm' : T V} {c : Call} (h : Same P tm tm' (.call c)) : opds P tm c.args.toList = opds P tm' c.args.toList ∧ (∀ f, c.callee = .value f → opd P tm f = opd P tm' f) ∧ ∀ r n, c.callee = .invoke r n → opd P tm r = opd P tm' r := by
  have h' : ∀ x ∈ c.operands, opd P tm x = opd P tm' x := h
  obtain ⟨callee, args, ats⟩ := c
  refine ⟨opds_congr fun x hx => h' x ?_, fun f hf => h' f ?_, fun r n hr => h' r ?_⟩
  · cases callee <;> simp [Call.operands] <;> simp_all
  · simp only at hf; subst hf; simp [Call.operands]
  · simp only at hr; subst hr; simp [Call.operands]
theorem opP_congr {tm tm' : T V} {o : Op} (h : Same P tm tm' o) : opP P tm o = opP P tm' o := by
  unfold Same at h
  cases o <;> simp only [opP] <;> simp only [Op.operands] at h <;> first | rfl | skip
  case move x => rw [h x (by simp)]
  case assign x => rw [h x (by simp)]
  case pick c a b => rw [h c (by simp), h a (by simp), h b (by simp)]
  case build t ps => rw [parts_congr h]
  case nilCheck x => rw [h x (by simp)]
  case binOp op t x y u => rw [h x (by simp), h y (by simp)]
  case unOp op t x => rw [h x (by simp)]
  case makeInterface t x => rw [h x (by simp)]
  case makeFunc f a b => rw [opds_congr (l := a) fun x hx => h x (by simp [hx]), opds_congr (l := b) fun x hx => h x (by simp [hx])]
  case slice t x lo hi mx =>
    rw [h x (by simp), opdO_congr (x := lo) fun y hy => h y (by simp_all), opdO_congr (x := hi) fun y hy => h y (by simp_all), opdO_congr (x := mx) fun y hy => h y (by simp_all)]
  case fieldAddr t x f => rw [h x (by simp)]
  case field t x f => rw [h x (by simp)]
  case indexAddr t x i => rw [h x (by simp), h i (by simp)]
  case index t x i => rw [h x (by simp), h i (by simp)]
  case typeAssert x t u ok => rw [h x (by simp)]
  case extract t i => rw [h t (by simp)]
  case convert s d x => rw [h x (by simp)]
  case call c => unfold callP; rw [(callArgs (c := c) h).1]
theorem opA_congr {tm tm' : T V} {o : Op} {dr : Bool} (h : Same P tm tm' o) : opA P dr tm o = opA P dr tm' o := by
  unfold Same at h
  cases o <;> simp only [opA] <;> simp only [Op.operands] at h <;> first | rfl | skip
  case box e x => rw [h x (by simp)]
  case buildSlice t n ps => rw [parts_congr h]
  case makeMap t r =>
    cases r with
    | none => rfl
    | some x => simp only; rw [h x (by simp)]
  case makeSlice t l c => rw [h l (by simp), h c (by simp)]
theorem opE_congr {tm tm' : T V} {o : Op} (h : Same P tm tm' o) : opE P R tm o = opE P R tm' o := by
  unfold Same at h
  cases o <;> simp only [opE] <;> simp only [Op.operands] at h <;> first | rfl | skip
  case store t a x => rw [h a (by simp), h x (by simp)]
  case convert s d x => rw [h x (by simp)]
  case mapUpdate t m k x => rw [h m (by simp), h k (by simp), h x (by simp)]
  case insert t m k x => rw [h m (by simp), h k (by simp), h x (by simp)]
  case mapEntry t m k => rw [h m (by simp), h k (by simp)]
  case entryStore t m k x => rw [h m (by simp), h k (by simp), h x (by simp)]
  case range t x => rw [h x (by simp)]
  case next x s => rw [h x (by simp)]
  case call c =>
    obtain ⟨h1, h2, h3⟩ := callArgs (c := c) h
    unfold callE
    rw [h1]
    cases hc : c.callee with
    | builtin b => rfl
    | value f => simp only; rw [h2 f hc]
    | invoke r n => simp only; rw [h3 r n hc]
theorem lenArg_mem {c : Call} {x : Operand} (h : lenArg c = some x) : x ∈ c.operands := by
  obtain ⟨callee, args, ats⟩ := c
  unfold lenArg at h
  split at h
  · rename_i hc
    simp only at hc; subst hc
    rw [nth_eq] at h
    have := List.mem_of_getElem? h
    simp [Call.operands]
    simpa using this
  · cases h
theorem readAt_congr {tm tm' : T V} {o : Op} (h : Same P tm tm' o) : readAt P tm o = readAt P tm' o := by
  unfold Same at h
  cases o <;> simp only [readAt] <;> simp only [Op.operands] at h <;> first | rfl | skip
  case load t a => rw [h a (by simp)]
  case convert s d x => rw [h x (by simp)]
  case lookup t x k ok => rw [h x (by simp)]
  case call c =>
    cases hl : lenArg c with
    | none => rfl
    | some x => simp only; rw [h x (lenArg_mem hl)]
theorem readB_congr {tm tm' : T V} {o : Op} {b : B} (h : Same P tm tm' o) : readB P tm o b = readB P tm' o b := by
  unfold Same at h
  cases o <;> simp only [readB] <;> simp only [Op.operands] at h <;> first | rfl | skip
  case load t a => rw [h a (by simp)]
  case convert s d x => rw [h x (by simp)]
  case lookup t x k ok => rw [h k (by simp)]
theorem readNil_congr {tm tm' : T V} {o : Op} (h : Same P tm tm' o) : readNil P tm o = readNil P tm' o := by
  unfold Same at h
  cases o <;> simp only [readNil] <;> simp only [Op.operands] at h <;> first | rfl | skip
  case lookup t x k ok => rw [h x (by simp), h k (by simp)]
  case convert s d x => rw [h x (by simp)]
  case call c =>
    cases hl : lenArg c with
    | none => rfl
    | some x => simp only; rw [h x (lenArg_mem hl)]
theorem opL_congr {tm tm' : T V} {o : Op} (h : Same P tm tm' o) : opL P tm o = opL P tm' o := by
  unfold opL
  rw [readAt_congr h, readNil_congr h]
  have : (fun x => M.lift (readB P tm o x)) = fun x => M.lift (readB P tm' o x) := by funext x; rw [readB_congr h]
  rw [this]
theorem opV_congr {tm tm' : T V} {o : Op} {al : Option Nat} (h : Same P tm tm' o) : opV P R al tm o = opV P R al tm' o := by
  unfold opV
  rw [opP_congr h, opL_congr h, opA_congr h, opE_congr h]
theorem insert_congr {tm tm' : T V} {t : Nat} {x k v : Operand} {bound : Nat} (h : Same P tm tm' (.insert t x k v)) : insertV P t bound (opd P tm x) (opd P tm k) (opd P tm v) = insertV P t bound (opd P tm' x) (opd P tm' k) (opd P tm' v) := by
  have h' : ∀ y ∈ #[x, k, v], opd P tm y = opd P tm' y := h
  rw [h' x (by simp), h' k (by simp), h' v (by simp)]
theorem opD_congr {tm tm' : T V} {o : Op} {s i fl : Nat} (h : Same P tm tm' o) : opD P R s i fl tm o = opD P R s i fl tm' o := by
  have e1 : (fun x => M.lift (readB P tm o x)) = fun x => M.lift (readB P tm' o x) := by funext x; rw [readB_congr h]
  unfold opD
  rw [opV_congr h, readAt_congr h, readNil_congr h]
  split
  · rfl
  · rw [e1]
  · simp only [readB_congr h]
  · split
    · rw [insert_congr h]
    · rfl
end Go.Ev
/- Two operations of a region that draws its order, done the other way about. -/
namespace Go.Ev
open Go
variable {P : Program} {R : Recs}

theorem T.one_any {α : Type} (c : α) : ∀ (u v x : Nat), x < u → x < v → T.one c u x = T.one c v x := by
  intro u
  induction u with
  | zero => intro v x h; omega
  | succ u ih =>
    intro v x h1 h2
    cases v with
    | zero => omega
    | succ v =>
      cases x with
      | zero => rfl
      | succ x => rw [T.one_s, T.one_s, ih v (x / 2) (by omega) (by omega)]
theorem T.set_one {α : Type} (a b : α) : ∀ (f k : Nat), k < f → (T.one a f k).set k b = T.one b f k := by
  intro f
  induction f with
  | zero => intro k h; omega
  | succ f ih =>
    intro k h
    cases k with
    | zero => rw [T.one_0, T.set_n0, T.one_0]
    | succ k =>
      rw [T.one_s, T.one_s]
      by_cases hk : k % 2 = 0
      · rw [if_pos hk, if_pos hk, T.set_ns, if_pos hk, ih _ (by omega)]
      · rw [if_neg hk, if_neg hk, T.set_ns, if_neg hk, ih _ (by omega)]
theorem T.set_set {α : Type} (t : T α) : ∀ (k : Nat) (a b : α), (t.set k a).set k b = t.set k b := by
  induction t with
  | e => intro k a b; rw [T.set_e, T.set_e, T.set_one _ _ _ _ (by omega)]
  | n l v r il ir =>
    intro k a b
    cases k with
    | zero => rw [T.set_n0, T.set_n0, T.set_n0]
    | succ k =>
      rw [T.set_ns, T.set_ns]
      by_cases hk : k % 2 = 0
      · rw [if_pos hk, if_pos hk, T.set_ns, if_pos hk, il]
      · rw [if_neg hk, if_neg hk, T.set_ns, if_neg hk, ir]

theorem note_comm (gs i j wr : Nat) : note gs i (note gs j wr) = note gs j (note gs i wr) := by
  apply Nat.eq_of_testBit_eq
  intro k
  simp only [note_bit]
  cases Nat.testBit wr k <;> simp [Bool.or_comm]
theorem note_none {gs i wr : Nat} (h : gs ≤ i) : note gs i wr = wr := by
  unfold note
  rw [blt_nat_false.2 h]
theorem note_other {gs i j wr : Nat} (h : j ≠ i) : Nat.testBit (note gs i wr) j = Nat.testBit wr j := by
  rw [note_bit]; simp [h]

/-- a run of one operation -/
def Run1 (m : M V) (h : H) (v : V) (h' : H) : Prop := m h = some (v, h')
/-- two runs, done the other way about -/
def Swap (y x : M V) (h : H) : Prop := ∀ vy h1 vx h2, y h = some (vy, h1) → x h1 = some (vx, h2) → ∃ h1', x h = some (vx, h1') ∧ y h1' = some (vy, h2)

theorem lift_any {o : Option V} {v : V} {h h' : H} (e : M.lift o h = some (v, h')) : o = some v ∧ h' = h ∧ ∀ h2, M.lift o h2 = some (v, h2) := by
  obtain ⟨rfl, rfl⟩ := lift_some e
  exact ⟨rfl, rfl, fun _ => rfl⟩
theorem Swap.pureL {o : Option V} {x : M V} {h : H} : Swap (M.lift o) x h := by
  intro vy h1 vx h2 e1 e2
  obtain ⟨rfl, rfl, a⟩ := lift_any e1
  exact ⟨h2, e2, a h2⟩
theorem Swap.pureR {o : Option V} {y : M V} {h : H} : Swap y (M.lift o) h := by
  intro vy h1 vx h2 e1 e2
  obtain ⟨rfl, rfl, a⟩ := lift_any e2
  exact ⟨h, a h, e1⟩

/-- a read: of nothing; or of a block -/
def IsRead (m : M V) (start fl : Nat) : Prop := ∀ h v h', m h = some (v, h') → h' = h ∧ ((∀ h2, m h2 = some (v, h2)) ∨ ∃ b blk, h.bs.get b = some blk ∧ (fl ≠ 0 → b < start ∧ (fl = 1 → ∀ k es, blk ≠ .smap k es)) ∧ (fl = 2 → clsOf blk = 0 ∧ Nat.testBit h.wr b = false) ∧
  ∀ h2, h2.bs.get b = some blk → (0 < clsOf blk → h2.cl.get (clsOf blk) = h.cl.get (clsOf blk)) → (fl = 2 → Nat.testBit h2.wr b = false) → m h2 = some (v, h2))

theorem getB_of {id : Nat} {b : B} {h : H} (e : h.bs.get id = some b) : getB id h = some (b, h) := by
  obtain ⟨n, gs, wr, bs, cl⟩ := h
  have e' : bs.get id = some b := e
  simp only [getB, e']
theorem getC_of {k : Nat} {c : Cl} {h : H} (e : h.cl.get k = some c) : getC k h = some (c, h) := by
  obtain ⟨n, gs, wr, bs, cl⟩ := h
  have e' : cl.get k = some c := e
  simp only [getC, e']
theorem getL_again {id : Nat} {b : B} {h h' : H} (e : getL id h = some (b, h')) : h' = h ∧ h.bs.get id = some b ∧ ∀ h2, h2.bs.get id = some b → (0 < clsOf b → h2.cl.get (clsOf b) = h.cl.get (clsOf b)) → getL id h2 = some (b, h2) := by
  unfold getL at e
  obtain ⟨b0, h1, e1, e2⟩ := bind_some e
  obtain ⟨rfl, hb⟩ := getB_some e1
  split at e2
  · rename_i c ee k
    split at e2
    · obtain ⟨rfl, rfl⟩ := pure_some e2
      refine ⟨rfl, hb, fun h2 hb2 _ => ?_⟩
      unfold getL; rw [bind_eq (getB_of hb2)]; rfl
    · rename_i k0
      obtain ⟨s, h3, e3, e4⟩ := bind_some e2
      obtain ⟨rfl, hc⟩ := getC_some e3
      generalize hl : live id s = q at e4
      cases q with
      | false => cases e4
      | true =>
        obtain ⟨rfl, rfl⟩ := pure_some e4
        refine ⟨rfl, hb, fun h2 hb2 hc2 => ?_⟩
        have hc' : h2.cl.get (k0 + 1) = some s := (hc2 (Nat.succ_pos _)).trans hc
        unfold getL
        rw [bind_eq (getB_of hb2)]
        simp only
        rw [bind_eq (getC_of hc')]
        simp only [hl]
        rfl
  · rename_i hne
    obtain ⟨rfl, rfl⟩ := pure_some e2
    refine ⟨rfl, hb, fun h2 hb2 _ => ?_⟩
    unfold getL; rw [bind_eq (getB_of hb2)]
    cases b with
    | cells c0 e0 k => exact absurd rfl (hne c0 e0 k)
    | _ => rfl

theorem isRead {start i fl : Nat} {tm : T V} {o : Op} (hk : kd P o = .l) (hf : fl ≤ 2) : IsRead (opD P R start i fl tm o) start fl := by
  intro h v h' e
  match fl, hf, e with
  | 0, _, e =>
    simp only [opD, opV, hk, opL] at e ⊢
    generalize hat : readAt P tm o = x at e ⊢
    cases x with
    | none => obtain ⟨_, rfl, a⟩ := lift_any e; exact ⟨rfl, .inl a⟩
    | some b =>
      simp only at e ⊢
      obtain ⟨blk, h1, e1, e2⟩ := bind_some e
      obtain ⟨rfl, hb, hag⟩ := getL_again e1
      obtain ⟨_, rfl, a⟩ := lift_any e2
      exact ⟨rfl, .inr ⟨b, blk, hb, fun q => absurd rfl q, fun q => by omega, fun h2 q1 q2 _ => by rw [bind_eq (hag h2 q1 q2)]; exact a h2⟩⟩
  | 1, _, e =>
    simp only [opD] at e ⊢
    generalize hat : readAt P tm o = x at e ⊢
    cases x with
    | none => obtain ⟨_, rfl, a⟩ := lift_any e; exact ⟨rfl, .inl a⟩
    | some b =>
      simp only at e ⊢
      generalize hlt : Nat.blt b start = q at e ⊢
      cases q with
      | false => cases e
      | true =>
        simp only at e ⊢
        rw [blt_nat] at hlt
        obtain ⟨blk, h1, e1, e2⟩ := bind_some e
        obtain ⟨rfl, hb, hag⟩ := getL_again e1
        have hns : ∀ k es, blk ≠ .smap k es := by
          rintro k es rfl
          cases e2
        have e3 : M.lift (readB P tm o blk) h1 = some (v, h') := by
          cases blk <;> first | exact e2 | exact absurd rfl (hns _ _)
        obtain ⟨_, rfl, a⟩ := lift_any e3
        refine ⟨rfl, .inr ⟨b, blk, hb, fun _ => ⟨hlt, fun _ => hns⟩, fun q => by omega, fun h2 q1 q2 _ => ?_⟩⟩
        rw [bind_eq (hag h2 q1 q2)]
        cases blk <;> first | exact a h2 | exact absurd rfl (hns _ _)
  | 2, _, e =>
    simp only [opD] at e ⊢
    generalize hat : readAt P tm o = x at e ⊢
    cases x with
    | none => obtain ⟨_, rfl, a⟩ := lift_any e; exact ⟨rfl, .inl a⟩
    | some b =>
      simp only at e ⊢
      obtain ⟨blk, h1, e1, e2⟩ := bind_some e
      obtain ⟨rfl, g1, g2, g3, g4⟩ := getOld_some e1
      obtain ⟨_, rfl, a⟩ := lift_any e2
      refine ⟨rfl, .inr ⟨b, blk, g3, fun _ => ⟨g1, fun q => by omega⟩, fun _ => ⟨g4, g2⟩, fun h2 q1 q2 q3 => ?_⟩⟩
      rw [bind_eq (getOld_of g1 (q3 trivial) q1 e1)]
      exact a h2

/-- a block made at its own number -/
theorem isMake {start i : Nat} {tm : T V} {o : Op} {h h' : H} {v : V} (hk : kd P o = .a) (e : opD P R start i 0 tm o h = some (v, h')) :
    ∃ b, fillB (start + i) b h = some ((), h') ∧ ∀ h2 h3, fillB (start + i) b h2 = some ((), h3) → opD P R start i 0 tm o h2 = some (v, h3) := by
  simp only [opD, opV, hk] at e ⊢
  generalize ho : opA P (drOf (some (start + i))) tm o = q at e ⊢
  cases q with
  | none => cases e
  | some y =>
    obtain ⟨b, mk⟩ := y
    simp only [newAt] at e ⊢
    obtain ⟨id, h1, e1, e2⟩ := bind_some e
    obtain ⟨u, h2, e3, e4⟩ := bind_some e1
    obtain ⟨rfl, rfl⟩ := pure_some e4
    obtain ⟨rfl, rfl⟩ := pure_some e2
    refine ⟨b, e3, fun h2 h3 e5 => ?_⟩
    have : M.bind (fillB (start + i) b) (fun _ => M.pure (start + i)) h2 = some (start + i, h3) := by rw [bind_eq e5]; rfl
    rw [bind_eq this]; rfl
theorem fillB_some {id : Nat} {b : B} {u : Unit} {h h' : H} (e : fillB id b h = some (u, h')) : id < h.next ∧ h.bs.get id = none ∧ h' = .mk h.next h.gs (note h.gs id h.wr) (h.bs.set id b) h.cl := by
  obtain ⟨n, gs, wr, bs, cl⟩ := h
  simp only [fillB] at e
  split at e
  · rename_i hlt
    split at e
    · cases e
    · rename_i hno
      injection e with e; injection e with _ e; subst e
      exact ⟨blt_nat.1 hlt, hno, rfl⟩
  · cases e
theorem fillB_of {id : Nat} {b : B} {h : H} (h1 : id < h.next) (h2 : h.bs.get id = none) : fillB id b h = some ((), .mk h.next h.gs (note h.gs id h.wr) (h.bs.set id b) h.cl) := by
  obtain ⟨n, gs, wr, bs, cl⟩ := h
  have h1' : Nat.blt id n = true := blt_nat.2 h1
  have h2' : bs.get id = none := h2
  simp only [fillB, h1', h2']
  rfl
end Go.Ev
/- Which two operations of a region may be swapped. -/
namespace Go.Ev
open Go
variable {P : Program} {R : Recs}

/-- a literal's entry, put into a block -/
noncomputable def insF (j : IntKind) (n : Nat) (v : V) (b : B) : Option B := match b with
  | .smap kd es => match sameK kd j with
    | true => match insS n v es with
      | some es => some (.smap kd es)
      | none => none
    | false => none
  | _ => none
theorem updB_of {id : Nat} {f : B → Option B} {b b' : B} {h : H} (h1 : h.bs.get id = some b) (h2 : f b = some b') : updB id f h = some ((), .mk h.next h.gs (note h.gs id h.wr) (h.bs.set id b') h.cl) := by
  obtain ⟨n, gs, wr, bs, cl⟩ := h
  have h1' : bs.get id = some b := h1
  simp only [updB, h1', h2]
  rfl
theorem updB_is {id : Nat} {f : B → Option B} {h h' : H} {u : Unit} (e : updB id f h = some (u, h')) :
    ∃ b b', h.bs.get id = some b ∧ f b = some b' ∧ h' = .mk h.next h.gs (note h.gs id h.wr) (h.bs.set id b') h.cl := by
  obtain ⟨n, gs, wr, bs, cl⟩ := h
  simp only [updB] at e
  split at e
  · rename_i b hb
    split at e
    · rename_i b' hb'
      injection e with e; injection e with _ e; subst e
      exact ⟨b, b', hb, hb', rfl⟩
    · cases e
  · cases e
theorem kd_ins {o : Op} {n : Nat} (h : kd P o = .i n) : ∃ t m j v, o = .insert t m (.const (.int j (.ofNat n))) v := by
  cases o <;> simp only [kd] at h <;> first | (cases h; done) | skip
  case insert t m k v =>
    split at h
    · injection h with h; subst h; exact ⟨t, m, _, v, rfl⟩
    · cases h
  case convert s d x =>
    split at h
    · cases h
    · split at h <;> cases h
    · cases h
  case call c =>
    split at h
    · split at h <;> first | (cases h; done) | skip
      split at h
      · split at h <;> cases h
      · cases h
    · cases h
theorem unit_of {m : M Unit} {h h' : H} {u : Unit} (e : m h = some (u, h')) : unit m h = some (.tup [], h') := by
  unfold unit; rw [bind_eq e]; rfl
theorem isIns {start i n fl : Nat} {tm : T V} {o : Op} {h h' : H} {v : V} (hk : kd P o = .i n) (hf : 3 ≤ fl) (e : opD P R start i fl tm o h = some (v, h')) :
    ∃ r j x, r < start + (fl - 3) ∧ updB r (insF j n x) h = some ((), h') ∧ ∀ h2 h3, updB r (insF j n x) h2 = some ((), h3) → opD P R start i fl tm o h2 = some (v, h3) := by
  obtain ⟨t, m, j, w, rfl⟩ := kd_ins hk
  obtain ⟨g, rfl⟩ : ∃ g, fl = g + 3 := ⟨fl - 3, by omega⟩
  simp only [opD] at e ⊢
  obtain ⟨rfl, u, e1⟩ := unit_some e
  have ok : opd P tm (.const (.int j (.ofNat n))) = .int j (.ofNat n) := rfl
  simp only [insertV, ok] at e1 ⊢
  generalize hu : P.underlying t = d at e1 ⊢
  split at e1
  · rename_i kt el
    generalize hko : keyOk P kt (.int j (.ofNat n)) = y at e1 ⊢
    cases y with
    | false => cases e1
    | true =>
      simp only at e1 ⊢
      generalize hm : opd P tm m = vm at e1 ⊢
      cases vm with
      | map r =>
        simp only at e1 ⊢
        generalize hb : Nat.blt r (start + (g + 3 - 3)) = y at e1 ⊢
        cases y with
        | false => cases e1
        | true =>
          rw [blt_nat] at hb
          have hf : (fun b => match b with
            | B.smap kd es => match sameK kd j with
              | true => match insS n (opd P tm w) es with
                | some es => some (B.smap kd es)
                | none => none
              | false => none
            | _ => none) = insF j n (opd P tm w) := by funext b; rfl
          refine ⟨r, j, opd P tm w, hb, ?_, fun h2 h3 e3 => ?_⟩
          · rw [← hf]; exact e1
          · refine unit_of (u := ()) ?_
            rw [← hf] at e3; exact e3
      | _ => cases e1
  · cases e1
theorem insF_smap {j : IntKind} {n : Nat} {x : V} {b b' : B} (h : insF j n x b = some b') : ∃ kd es es', b = .smap kd es ∧ sameK kd j = true ∧ insS n x es = some es' ∧ b' = .smap kd es' := by
  unfold insF at h
  split at h
  · rename_i kd es
    generalize hs : sameK kd j = q at h
    cases q with
    | false => cases h
    | true =>
      simp only at h
      generalize hi : insS n x es = q at h
      cases q with
      | none => cases h
      | some es' => injection h with h; exact ⟨kd, es, es', rfl, hs, hi, h.symm⟩
  · cases h
theorem insS_comm {m n : Nat} {x y : V} (hne : m ≠ n) : ∀ (es r1 r2 : List (Nat × V)), insS m x es = some r1 → insS n y r1 = some r2 → ∃ r3, insS n y es = some r3 ∧ insS m x r3 = some r2 := by
  intro es
  induction es with
  | nil =>
    intro r1 r2 h1 h2
    simp only [insS] at h1; injection h1 with h1; subst h1
    refine ⟨[(n, y)], rfl, ?_⟩
    rw [insS_cons] at h2 ⊢
    have b1 : Nat.beq m n = false := beq_nat_false.2 hne
    have b2 : Nat.beq n m = false := beq_nat_false.2 fun q => hne q.symm
    simp only [b1] at h2
    simp only [b2]
    cases hb : Nat.ble n m with
    | true =>
      rw [ble_nat] at hb
      have c1 : Nat.ble m n = false := ble_nat_false.2 (by omega)
      rw [ble_nat.2 hb] at h2
      simp only at h2
      injection h2 with h2; subst h2
      simp only [c1]
      rfl
    | false =>
      rw [hb] at h2
      rw [ble_nat_false] at hb
      have c1 : Nat.ble m n = true := ble_nat.2 (by omega)
      simp only [insS] at h2
      injection h2 with h2; subst h2
      simp only [c1]
  | cons e l ih =>
    intro r1 r2 h1 h2
    have b1 : Nat.beq m n = false := beq_nat_false.2 hne
    have b2 : Nat.beq n m = false := beq_nat_false.2 fun q => hne q.symm
    rw [insS_cons] at h1
    cases he : Nat.beq e.1 m with
    | true => rw [he] at h1; cases h1
    | false =>
      rw [he] at h1
      simp only at h1
      cases hm : Nat.ble m e.1 with
      | true =>
        rw [hm] at h1
        simp only at h1
        injection h1 with h1; subst h1
        rw [insS_cons] at h2
        simp only [b1] at h2
        cases hn : Nat.ble n m with
        | true =>
          rw [hn] at h2
          simp only at h2
          injection h2 with h2; subst h2
          rw [ble_nat] at hn hm
          have e1 : Nat.beq e.1 n = false := beq_nat_false.2 (by omega)
          have e2 : Nat.ble n e.1 = true := ble_nat.2 (by omega)
          have e3 : Nat.ble m n = false := ble_nat_false.2 (by omega)
          refine ⟨(n, y) :: e :: l, by rw [insS_cons]; simp only [e1, e2], ?_⟩
          rw [insS_cons]; simp only [b2, e3]
          rw [insS_cons]; simp only [he, ble_nat.2 hm]
        | false =>
          rw [hn] at h2
          simp only at h2
          generalize hi : insS n y (e :: l) = q at h2
          cases q with
          | none => cases h2
          | some r3 =>
            simp only at h2
            injection h2 with h2; subst h2
            refine ⟨r3, rfl, ?_⟩
            rw [ble_nat_false] at hn
            rw [ble_nat] at hm
            -- what stands first there is above m
            have hr : ∃ e' l', r3 = e' :: l' ∧ m < e'.1 ∨ ∃ l', r3 = e :: l' := by
              rw [insS_cons] at hi
              cases g1 : Nat.beq e.1 n with
              | true => rw [g1] at hi; cases hi
              | false =>
                rw [g1] at hi
                simp only at hi
                cases g2 : Nat.ble n e.1 with
                | true => rw [g2] at hi; simp only at hi; injection hi with hi; exact ⟨_, _, .inl ⟨hi.symm, hn⟩⟩
                | false =>
                  rw [g2] at hi
                  simp only at hi
                  generalize g3 : insS n y l = q at hi
                  cases q with
                  | none => cases hi
                  | some r => simp only at hi; injection hi with hi; exact ⟨e, r, .inr ⟨r, hi.symm⟩⟩
            obtain ⟨e', l', hr⟩ := hr
            rcases hr with ⟨rfl, hlt⟩ | ⟨l2, rfl⟩
            · rw [insS_cons]
              have : Nat.beq e'.1 m = false := beq_nat_false.2 (by omega)
              simp only [this, ble_nat.2 (Nat.le_of_lt hlt)]
            · rw [insS_cons]
              simp only [he, ble_nat.2 hm]
      | false =>
        rw [hm] at h1
        simp only at h1
        generalize hi : insS m x l = q at h1
        cases q with
        | none => cases h1
        | some r =>
          simp only at h1
          injection h1 with h1; subst h1
          rw [ble_nat_false] at hm
          rw [insS_cons] at h2
          cases g1 : Nat.beq e.1 n with
          | true => rw [g1] at h2; cases h2
          | false =>
            rw [g1] at h2
            simp only at h2
            cases g2 : Nat.ble n e.1 with
            | true =>
              rw [g2] at h2
              simp only at h2
              injection h2 with h2; subst h2
              refine ⟨(n, y) :: e :: l, by rw [insS_cons]; simp only [g1, g2], ?_⟩
              rw [ble_nat] at g2
              have e3 : Nat.ble m n = false := ble_nat_false.2 (by omega)
              rw [insS_cons]; simp only [b2, e3]
              rw [insS_cons]; simp only [he, ble_nat_false.2 hm, hi]
            | false =>
              rw [g2] at h2
              simp only at h2
              generalize g3 : insS n y r = q at h2
              cases q with
              | none => cases h2
              | some r' =>
                simp only at h2
                injection h2 with h2; subst h2
                obtain ⟨r3, q1, q2⟩ := ih r r' hi g3
                refine ⟨e :: r3, by rw [insS_cons]; simp only [g1, g2, q1], ?_⟩
                rw [insS_cons]; simp only [he, ble_nat_false.2 hm, q2]
end Go.Ev
/- The swap. -/
namespace Go.Ev
open Go
variable {P : Program} {R : Recs}

theorem getB_ne {t : T B} {i j : Nat} {b b' : B} (h : t.get i = some b) (k : t.get j = none) : (t.set j b').get i = some b := by
  rw [T.get_set_ne _ _ (ne_of_get h k)]; exact h

/-- two reads -/
theorem Swap.reads {y x : M V} {h : H} {s fy fx : Nat} (hy : IsRead y s fy) (hx : IsRead x s fx) : Swap y x h := by
  intro vy h1 vx h2 e1 e2
  obtain ⟨rfl, _⟩ := hy _ _ _ e1
  obtain ⟨rfl, _⟩ := hx _ _ _ e2
  exact ⟨h2, e2, e1⟩
/-- a read ahead of something that changes one block alone, another one -/
theorem read_kept {y : M V} {s fy : Nat} {h h2 h' : H} {v : V} (hy : IsRead y s fy) (e : y h = some (v, h'))
    (hk : ∀ b blk, h.bs.get b = some blk → (fy ≠ 0 → b < s ∧ (fy = 1 → ∀ k es, blk ≠ .smap k es)) → (fy = 2 → clsOf blk = 0 ∧ Nat.testBit h.wr b = false) → h2.bs.get b = some blk ∧ (0 < clsOf blk → h2.cl.get (clsOf blk) = h.cl.get (clsOf blk)) ∧ (fy = 2 → Nat.testBit h2.wr b = false)) :
    y h2 = some (v, h2) := by
  obtain ⟨rfl, a | ⟨b, blk, g1, g2, g3, g4⟩⟩ := hy _ _ _ e
  · exact a h2
  · obtain ⟨q1, q2, q3⟩ := hk b blk g1 g2 g3
    exact g4 h2 q1 q2 q3
theorem Swap.readMake {y : M V} {start xi fy : Nat} {tm : T V} {o : Op} {h : H} (hy : IsRead y start fy) (hk : kd P o = .a) : Swap y (opD P R start xi 0 tm o) h := by
  intro vy h1 vx h2 e1 e2
  obtain ⟨rfl, _⟩ := hy _ _ _ e1
  refine ⟨h2, e2, ?_⟩
  obtain ⟨b, f1, _⟩ := isMake hk e2
  obtain ⟨g1, g2, rfl⟩ := fillB_some f1
  refine read_kept hy e1 fun c blk q1 _ q3 => ⟨getB_ne q1 g2, fun _ => rfl, fun q => ?_⟩
  exact (note_other (ne_of_get q1 g2)).trans (q3 q).2
theorem Swap.makeRead {x : M V} {start yi fx : Nat} {tm : T V} {o : Op} {h : H} (hx : IsRead x start fx) (hf : fx ≠ 0) (hk : kd P o = .a) : Swap (opD P R start yi 0 tm o) x h := by
  intro vy h1 vx h2 e1 e2
  obtain ⟨b, f1, _⟩ := isMake hk e1
  obtain ⟨g1, g2, g3⟩ := fillB_some f1
  have e2' := e2
  obtain ⟨rfl, _⟩ := hx _ _ _ e2
  refine ⟨h, ?_, e1⟩
  refine read_kept hx e2 fun c blk q1 q2 q3 => ?_
  have hne : c ≠ start + yi := by have := (q2 hf).1; omega
  subst g3
  have q1' : (h.bs.set (start + yi) b).get c = some blk := q1
  rw [T.get_set_ne _ _ hne] at q1'
  exact ⟨q1', fun _ => rfl, fun q => (note_other hne).symm.trans (q3 q).2⟩
theorem Swap.readIns {y : M V} {start xi fy fx n : Nat} {tm : T V} {o : Op} {h : H} (hy : IsRead y start fy) (hf : fy = 1) (hk : kd P o = .i n) (hfx : 3 ≤ fx) : Swap y (opD P R start xi fx tm o) h := by
  intro vy h1 vx h2 e1 e2
  obtain ⟨rfl, _⟩ := hy _ _ _ e1
  refine ⟨h2, e2, ?_⟩
  obtain ⟨r, j, v, _, f1, _⟩ := isIns hk hfx e2
  obtain ⟨b, b', g1, g2, rfl⟩ := updB_is f1
  obtain ⟨kd, es, es', rfl, _⟩ := insF_smap g2
  refine read_kept hy e1 fun c blk q1 q2 q3 => ?_
  have hne : c ≠ r := by rintro rfl; rw [q1] at g1; injection g1 with g1; exact (q2 (by omega)).2 hf _ _ g1
  refine ⟨?_, fun _ => rfl, fun q => (note_other hne).trans (q3 q).2⟩
  show (h1.bs.set r b').get c = some blk
  rw [T.get_set_ne _ _ hne]; exact q1
theorem Swap.insRead {x : M V} {start yi fy fx n : Nat} {tm : T V} {o : Op} {h : H} (hx : IsRead x start fx) (hf : fx = 1) (hk : kd P o = .i n) (hfy : 3 ≤ fy) : Swap (opD P R start yi fy tm o) x h := by
  intro vy h1 vx h2 e1 e2
  obtain ⟨r, j, v, _, f1, _⟩ := isIns hk hfy e1
  obtain ⟨b, b', g1, g2, g3⟩ := updB_is f1
  obtain ⟨kd, es, es', rfl, _, _, rfl⟩ := insF_smap g2
  have e2' := e2
  obtain ⟨rfl, _⟩ := hx _ _ _ e2
  refine ⟨h, ?_, e1⟩
  refine read_kept hx e2 fun c blk q1 q2 q3 => ?_
  subst g3
  have q1' : (h.bs.set r (.smap kd es')).get c = some blk := q1
  have hne : c ≠ r := by
    rintro rfl
    rw [T.get_set_same] at q1'
    injection q1' with q1'
    exact (q2 (by omega)).2 hf _ _ q1'.symm
  rw [T.get_set_ne _ _ hne] at q1'
  exact ⟨q1', fun _ => rfl, fun q => (note_other hne).symm.trans (q3 q).2⟩
theorem Swap.makes {start yi xi : Nat} {tm tm' : T V} {o o' : Op} {h : H} (hy : kd P o = .a) (hx : kd P o' = .a) (hne : yi ≠ xi) : Swap (opD P R start yi 0 tm o) (opD P R start xi 0 tm' o') h := by
  intro vy h1 vx h2 e1 e2
  obtain ⟨b, f1, a1⟩ := isMake hy e1
  obtain ⟨c, f2, a2⟩ := isMake hx e2
  obtain ⟨g1, g2, rfl⟩ := fillB_some f1
  obtain ⟨k1, k2, rfl⟩ := fillB_some f2
  have k2' : h.bs.get (start + xi) = none := by
    have : (h.bs.set (start + yi) b).get (start + xi) = none := k2
    rwa [T.get_set_ne _ _ (by omega)] at this
  have p1 := fillB_of (b := c) (h := h) k1 k2'
  refine ⟨_, a2 h _ p1, ?_⟩
  refine a1 _ _ ?_
  have p2 := fillB_of (b := b) (id := start + yi) (h := .mk h.next h.gs (note h.gs (start + xi) h.wr) (h.bs.set (start + xi) c) h.cl) g1 (by
    show (h.bs.set (start + xi) c).get (start + yi) = none
    rw [T.get_set_ne _ _ (by omega)]; exact g2)
  rw [p2]
  show some ((), H.mk h.next h.gs (note h.gs (start + yi) (note h.gs (start + xi) h.wr)) ((h.bs.set (start + xi) c).set (start + yi) b) h.cl) = some ((), H.mk h.next h.gs (note h.gs (start + xi) (note h.gs (start + yi) h.wr)) ((h.bs.set (start + yi) b).set (start + xi) c) h.cl)
  rw [note_comm, T.set_comm _ _ _ _ _ (show start + xi ≠ start + yi by omega)]
theorem Swap.makeIns {start yi xi fx n : Nat} {tm tm' : T V} {o o' : Op} {h : H} (hy : kd P o = .a) (hx : kd P o' = .i n) (hf : 3 ≤ fx) (hb : fx ≤ yi + 3) : Swap (opD P R start yi 0 tm o) (opD P R start xi fx tm' o') h := by
  intro vy h1 vx h2 e1 e2
  obtain ⟨b, f1, a1⟩ := isMake hy e1
  obtain ⟨r, j, v, hr, f2, a2⟩ := isIns hx hf e2
  obtain ⟨g1, g2, rfl⟩ := fillB_some f1
  obtain ⟨c, c', k1, k2, rfl⟩ := updB_is f2
  have hne : r ≠ start + yi := by omega
  have k1' : h.bs.get r = some c := by
    have : (h.bs.set (start + yi) b).get r = some c := k1
    rwa [T.get_set_ne _ _ hne] at this
  refine ⟨_, a2 h _ (updB_of k1' k2), a1 _ _ ?_⟩
  have p2 := fillB_of (b := b) (id := start + yi) (h := .mk h.next h.gs (note h.gs r h.wr) (h.bs.set r c') h.cl) g1 (by
    show (h.bs.set r c').get (start + yi) = none
    rw [T.get_set_ne _ _ (fun q => hne q.symm)]; exact g2)
  rw [p2]
  show some ((), H.mk h.next h.gs (note h.gs (start + yi) (note h.gs r h.wr)) ((h.bs.set r c').set (start + yi) b) h.cl) = some ((), H.mk h.next h.gs (note h.gs r (note h.gs (start + yi) h.wr)) ((h.bs.set (start + yi) b).set r c') h.cl)
  rw [note_comm, T.set_comm _ _ _ _ _ hne]
theorem Swap.insMake {start yi xi fy n : Nat} {tm tm' : T V} {o o' : Op} {h : H} (hy : kd P o = .i n) (hx : kd P o' = .a) (hf : 3 ≤ fy) : Swap (opD P R start yi fy tm o) (opD P R start xi 0 tm' o') h := by
  intro vy h1 vx h2 e1 e2
  obtain ⟨r, j, v, hr, f1, a1⟩ := isIns hy hf e1
  obtain ⟨b, f2, a2⟩ := isMake hx e2
  obtain ⟨c, c', k1, k2, rfl⟩ := updB_is f1
  obtain ⟨g1, g2, rfl⟩ := fillB_some f2
  have hne : r ≠ start + xi := by
    rintro rfl
    have : (h.bs.set (start + xi) c').get (start + xi) = none := g2
    rw [T.get_set_same] at this; cases this
  have g2' : h.bs.get (start + xi) = none := by
    have : (h.bs.set r c').get (start + xi) = none := g2
    rwa [T.get_set_ne _ _ (fun q => hne q.symm)] at this
  refine ⟨_, a2 h _ (fillB_of g1 g2'), a1 _ _ ?_⟩
  have p2 := updB_of (f := insF j n v) (id := r) (b := c) (b' := c') (h := .mk h.next h.gs (note h.gs (start + xi) h.wr) (h.bs.set (start + xi) b) h.cl) (by
    show (h.bs.set (start + xi) b).get r = some c
    rw [T.get_set_ne _ _ hne]; exact k1) k2
  rw [p2]
  show some ((), H.mk h.next h.gs (note h.gs r (note h.gs (start + xi) h.wr)) ((h.bs.set (start + xi) b).set r c') h.cl) = some ((), H.mk h.next h.gs (note h.gs (start + xi) (note h.gs r h.wr)) ((h.bs.set r c').set (start + xi) b) h.cl)
  rw [note_comm, T.set_comm _ _ _ _ _ (fun q => hne q.symm)]
theorem Swap.inss {start yi xi fy fx m n : Nat} {tm tm' : T V} {o o' : Op} {h : H} (hy : kd P o = .i m) (hx : kd P o' = .i n) (hf : 3 ≤ fy) (hg : 3 ≤ fx) (hne : m ≠ n) : Swap (opD P R start yi fy tm o) (opD P R start xi fx tm' o') h := by
  intro vy h1 vx h2 e1 e2
  obtain ⟨r, j, v, _, f1, a1⟩ := isIns hy hf e1
  obtain ⟨q, i, u, _, f2, a2⟩ := isIns hx hg e2
  obtain ⟨c, c', k1, k2, rfl⟩ := updB_is f1
  obtain ⟨d, d', l1, l2, rfl⟩ := updB_is f2
  by_cases hrq : r = q
  · subst hrq
    have l1' : (h.bs.set r c').get r = some d := l1
    rw [T.get_set_same] at l1'
    injection l1' with l1'; subst l1'
    obtain ⟨kd, es, es1, rfl, s1, i1, rfl⟩ := insF_smap k2
    obtain ⟨kd2, es1', es2, hq, s2, i2, rfl⟩ := insF_smap l2
    injection hq with hq1 hq2; subst hq1; subst hq2
    obtain ⟨es3, i3, i4⟩ := insS_comm hne _ _ _ i1 i2
    have p1 : insF i n u (.smap kd es) = some (.smap kd es3) := by simp only [insF, s2, i3]
    have p2 : insF j m v (.smap kd es3) = some (.smap kd es2) := by simp only [insF, s1, i4]
    refine ⟨_, a2 h _ (updB_of k1 p1), a1 _ _ ?_⟩
    have p3 := updB_of (f := insF j m v) (id := r) (b := .smap kd es3) (b' := .smap kd es2) (h := .mk h.next h.gs (note h.gs r h.wr) (h.bs.set r (.smap kd es3)) h.cl) (T.get_set_same _ _ _) p2
    rw [p3]
    show some ((), H.mk h.next h.gs (note h.gs r (note h.gs r h.wr)) ((h.bs.set r (.smap kd es3)).set r (.smap kd es2)) h.cl) = some ((), H.mk h.next h.gs (note h.gs r (note h.gs r h.wr)) ((h.bs.set r (.smap kd es1)).set r (.smap kd es2)) h.cl)
    rw [T.set_set, T.set_set]
  · have l1' : h.bs.get q = some d := by
      have : (h.bs.set r c').get q = some d := l1
      rwa [T.get_set_ne _ _ (fun w => hrq w.symm)] at this
    refine ⟨_, a2 h _ (updB_of l1' l2), a1 _ _ ?_⟩
    have p2 := updB_of (f := insF j m v) (id := r) (b := c) (b' := c') (h := .mk h.next h.gs (note h.gs q h.wr) (h.bs.set q d') h.cl) (by
      show (h.bs.set q d').get r = some c
      rw [T.get_set_ne _ _ hrq]; exact k1) k2
    rw [p2]
    show some ((), H.mk h.next h.gs (note h.gs r (note h.gs q h.wr)) ((h.bs.set q d').set r c') h.cl) = some ((), H.mk h.next h.gs (note h.gs q (note h.gs r h.wr)) ((h.bs.set r c').set q d') h.cl)
    rw [note_comm, T.set_comm _ _ _ _ _ (fun w => hrq w.symm)]
/-- something that runs on, and a read of an old block that it does not write -/
theorem Swap.anyRead {y x : M V} {start : Nat} {h : H} (hy : Good y) (hx : IsRead x start 2) (hg : h.gs = start) (hn : h.gs ≤ h.next) : Swap y x h := by
  intro vy h1 vx h2 e1 e2
  have k := hy.ok _ _ _ e1 hn
  have e2' := e2
  obtain ⟨rfl, _⟩ := hx _ _ _ e2
  refine ⟨h, ?_, e1⟩
  refine read_kept hx e2 fun c blk q1 q2 q3 => ?_
  have hlt := (q2 (by omega)).1
  obtain ⟨hc, hw⟩ := q3 rfl
  refine ⟨?_, fun q => absurd q (by omega), fun _ => ?_⟩
  · rw [← k.old c (by omega) hw]; exact q1
  · cases hq : Nat.testBit h.wr c with
    | false => rfl
    | true => rw [k.wr c hq] at hw; cases hw
/-- something that runs on, and a block that is made -/
theorem Swap.anyMake {y : M V} {start xi : Nat} {tm : T V} {o : Op} {h : H} (hy : Good y) (hx : kd P o = .a) (hg : h.gs ≤ start) (hn : h.gs ≤ h.next) (hxi : start + xi < h.next) : Swap y (opD P R start xi 0 tm o) h := by
  intro vy h1 vx h2 e1 e2
  have k := hy.ok _ _ _ e1 hn
  obtain ⟨b, f2, a2⟩ := isMake hx e2
  obtain ⟨g1, g2, rfl⟩ := fillB_some f2
  have g2' : h.bs.get (start + xi) = none := by
    cases hq : h.bs.get (start + xi) with
    | none => rfl
    | some c => obtain ⟨d, hd⟩ := k.dom _ _ hq; rw [g2] at hd; cases hd
  have p1 := fillB_of (b := b) hxi g2'
  refine ⟨_, a2 h _ p1, ?_⟩
  have r := hy.fr _ _ _ e1 hn (start + xi) b hxi g2
  have q1 : h.fill (start + xi) b = .mk h.next h.gs (note h.gs (start + xi) h.wr) (h.bs.set (start + xi) b) h.cl := by
    rw [note_none (by omega)]; obtain ⟨n, gs, wr, bs, cl⟩ := h; rfl
  have q2 : h1.fill (start + xi) b = .mk h1.next h1.gs (note h1.gs (start + xi) h1.wr) (h1.bs.set (start + xi) b) h1.cl := by
    rw [note_none (by rw [k.gs]; omega)]; obtain ⟨n, gs, wr, bs, cl⟩ := h1; rfl
  rw [q1, q2] at r
  exact r
end Go.Ev
/- A step of a region, swapped with another one. -/
namespace Go.Ev
open Go
variable {P : Program} {R : Recs}

/-- what one operation gives -/
noncomputable def valD (P : Program) (R : Recs) (start : Nat) (all : List Oper) (o : Oper) (x : Nat × Nat) (tm : T V) : M V := match wantedV tm all o.guard with
  | some true => opD P R start x.1 x.2 tm o.op
  | some false => M.pure (.tup [])
  | none => M.fail
theorem oneD_eq {start : Nat} {all : List Oper} {x : Nat × Nat} {f : Fm} {o : Oper} (h : nth all x.1 = some o) : oneD P R start all x f = M.bind (valD P R start all o x f.tm) fun v => put f o.dst v := by
  unfold oneD valD
  rw [h]
  simp only
  cases wantedV f.tm all o.guard with
  | none => rfl
  | some b => cases b <;> rfl
theorem val_cases (start : Nat) (all : List Oper) (o : Oper) (x : Nat × Nat) (tm : T V) : (∃ v, valD P R start all o x tm = M.lift v) ∨ valD P R start all o x tm = opD P R start x.1 x.2 tm o.op := by
  unfold valD
  cases wantedV tm all o.guard with
  | none => exact .inl ⟨none, rfl⟩
  | some b =>
    cases b with
    | true => exact .inr rfl
    | false => exact .inl ⟨some (.tup []), rfl⟩

theorem okPair_some {yi fy fx : Nat} {y x : Od} (h : okPair yi fy y fx x = true) : memO y.dst x.looks = false ∧ memO x.dst y.looks = false ∧ sameO x.dst y.dst = false ∧ (okKinds yi fy fx y.k x.k = true ∨ entPair y fx x = true) := by
  unfold okPair at h
  split at h
  · cases h
  · rename_i h1
    split at h
    · cases h
    · rename_i h2
      split at h
      · cases h
      · rename_i h3
        refine ⟨h1, h2, h3, ?_⟩
        split at h
        · rename_i h4; exact .inl h4
        · exact .inr h
theorem oldRead_ne {f : Nat} (h : oldRead f = true) : f ≠ 0 := by rintro rfl; cases h
theorem opD_p {start i : Nat} {tm : T V} {o : Op} (hk : kd P o = .p) : opD P R start i 0 tm o = M.lift (opP P tm o) := by
  simp only [opD, opV, hk]


-- A LOOK-UP, AND THE ENTRY OF THE SAME MAP AT THE SAME KEY

def entOk (fx : Nat) (a b : Nat × Nat × Nat × Nat) : Bool := match fx, a, b with
  | 0, (2, a, b, c), (1, d, e, f) => match Nat.beq a d, Nat.beq b e with
    | true, true => Nat.beq c f
    | _, _ => false
  | _, _, _ => false
theorem entPair_eq (y x : Od) (fx : Nat) : entPair y fx x = entOk fx y.mp x.mp := rfl
theorem entOk_some {fx : Nat} {a b : Nat × Nat × Nat × Nat} (h : entOk fx a b = true) : fx = 0 ∧ ∃ t m k, a = (2, t, m, k) ∧ b = (1, t, m, k) := by
  unfold entOk at h
  split at h
  · split at h
    · rename_i e1 e2
      rw [beq_nat.1 e1, beq_nat.1 e2, beq_nat.1 h]
      exact ⟨rfl, _, _, _, rfl, rfl⟩
    · cases h
  · cases h
theorem mpOf_entry {o : Op} {t m k : Nat} (h : mpOf o = (2, t, m, k)) : o = .mapEntry t (.tmp m) (.tmp k) := by
  unfold mpOf at h
  split at h
  · cases h
  · injection h with _ h; injection h with h1 h; injection h with h2 h3; subst h1; subst h2; subst h3; rfl
  · cases h
theorem mpOf_look {o : Op} {t m k : Nat} (h : mpOf o = (1, t, m, k)) : o = .lookup t (.tmp m) (.tmp k) false := by
  unfold mpOf at h
  split at h
  · injection h with _ h; injection h with h1 h; injection h with h2 h3; subst h1; subst h2; subst h3; rfl
  · cases h
  · cases h
theorem lookE_c (kt : Nat) (k : V) (e : V × V × Nat) (l : List (V × V × Nat)) : lookE P kt k (e :: l) = (match eqT P 8 kt k e.1 with
    | some true => some (some e.2)
    | some false => lookE P kt k l
    | none => none) := rfl
theorem updE_c (kt : Nat) (k v : V) (e : V × V × Nat) (l : List (V × V × Nat)) : updE P kt k v (e :: l) = (match eqT P 8 kt k e.1 with
    | some true => match sameV k e.1 with
      | true => some ((k, v, e.2.2) :: l)
      | false => none
    | some false => match updE P kt k v l with
      | some r => some (e :: r)
      | none => none
    | none => none) := rfl
/-- the same value put anew: the same entries -/
theorem updE_found {kt n : Nat} {k v : V} : ∀ {l l' : List (V × V × Nat)}, lookE P kt k l = some (some (v, n)) → updE P kt k v l = some l' → l' = l
  | [], _, h, _ => by
    change some none = _ at h
    cases h
  | e :: l, l', h1, h2 => by
    rw [lookE_c] at h1
    rw [updE_c] at h2
    generalize eqT P 8 kt k e.1 = q at h1 h2
    match q, h1, h2 with
    | some true, h1, h2 =>
      simp only at h1 h2
      injection h1 with h1; injection h1 with h1
      split at h2
      · rename_i hs
        injection h2 with h2
        rw [← h2, sameV_eq hs]
        obtain ⟨a, b⟩ := e
        simp only at h1
        rw [h1]
      · cases h2
    | some false, h1, h2 =>
      simp only at h1 h2
      generalize hu : updE P kt k v l = u at h2
      cases u with
      | none => cases h2
      | some r =>
        injection h2 with h2
        rw [← h2, updE_found h1 hu]
/-- one more entry behind: a look-up gives it, or nothing -/
theorem lookE_snoc {kt : Nat} {k z : V} {n : Nat} : ∀ {l : List (V × V × Nat)} {q : Option (V × Nat)}, lookE P kt k l = some none → lookE P kt k (lapp l [(k, z, n)]) = some q → q = none ∨ q = some (z, n)
  | [], q, _, h => by
    have h' : (match eqT P 8 kt k k with
      | some true => some (some (z, n))
      | some false => some none
      | none => none) = some q := h
    split at h'
    · injection h' with h'; exact .inr h'.symm
    · injection h' with h'; exact .inl h'.symm
    · cases h'
  | e :: l, q, h1, h2 => by
    rw [lookE_c] at h1
    have h2' : lookE P kt k (e :: lapp l [(k, z, n)]) = some q := h2
    rw [lookE_c] at h2'
    generalize eqT P 8 kt k e.1 = u at h1 h2'
    match u, h1, h2' with
    | some false, h1, h2' => exact lookE_snoc h1 h2'
theorem Swap.entLook {start yi xi t m k : Nat} {tm : T V} {h : H} : Swap (opD P R start yi 0 tm (.mapEntry t (.tmp m) (.tmp k))) (opD P R start xi 0 tm (.lookup t (.tmp m) (.tmp k) false)) h := by
  intro vy h1 vx h2 e1 e2
  have e1' : mapEntV P t (opd P tm (.tmp m)) (opd P tm (.tmp k)) h = some (vy, h1) := e1
  have hL : ∀ h0, opD P R start xi 0 tm (.lookup t (.tmp m) (.tmp k) false) h0 = opL P tm (.lookup t (.tmp m) (.tmp k) false) h0 := fun _ => rfl
  rw [hL] at e2
  -- the map
  generalize hm : opd P tm (.tmp m) = x at e1'
  generalize hk : opd P tm (.tmp k) = kv at e1'
  unfold mapEntV at e1'
  generalize hu : P.underlying t = ud at e1'
  match ud, hu, e1' with
  | some (.map kt el), hu, e1' =>
    simp only at e1'
    generalize hko : keyOk P kt kv = ko at e1'
    generalize hz : zeroOf P el = zo at e1'
    match ko, zo, x, hko, hz, hm, e1' with
    | true, some z, .map r, hko, hz, hm, e1' =>
        simp only at e1'
        have hza : zeroAt P t kv = some (kt, z) := by unfold zeroAt; rw [hu]; simp only; rw [hko]; simp only; rw [hz]
        have hra : readAt P tm (.lookup t (.tmp m) (.tmp k) false) = some r := by
          simp only [readAt, hm]
        have hrb : ∀ b, readB P tm (.lookup t (.tmp m) (.tmp k) false) b = lookB P t kv false b := fun b => by simp only [readB, hk]
        obtain ⟨⟨es, cl⟩, h3, a1, a2⟩ := bind_some e1'
        unfold getMap at a1
        obtain ⟨b, h4, a3, a4⟩ := bind_some a1
        obtain ⟨rfl, hb⟩ := getB_some a3
        split at a4
        · rename_i es0 cl0
          obtain ⟨a5, rfl⟩ := pure_some a4
          injection a5 with a5 a6; subst a5; subst a6
          -- the look-up, ahead of the entry
          have before : ∀ o, lookE P kt kv es = some o → opL P tm (.lookup t (.tmp m) (.tmp k) false) h3 = some (found (o.map (·.1)) z false, h3) := by
            intro o ho
            unfold opL
            rw [hra]
            simp only
            have hg : getL r h3 = some (.map es cl, h3) := by unfold getL; rw [bind_eq (getB_of hb)]; rfl
            rw [bind_eq hg, hrb]
            unfold lookB
            rw [hza]
            simp only
            unfold lookM
            simp only
            rw [ho]
            cases o with
            | none => rfl
            | some p => rfl
          -- and behind it
          have after : ∀ es1 cl1, h1.bs.get r = some (.map es1 cl1) → ∃ o, lookE P kt kv es1 = some o ∧ vx = found (o.map (·.1)) z false ∧ h2 = h1 := by
            intro es1 cl1 hb1
            unfold opL at e2
            rw [hra] at e2
            simp only at e2
            have hg : getL r h1 = some (.map es1 cl1, h1) := by unfold getL; rw [bind_eq (getB_of hb1)]; rfl
            rw [bind_eq hg, hrb] at e2
            unfold lookB at e2
            rw [hza] at e2
            simp only at e2
            unfold lookM at e2
            simp only at e2
            generalize hl : lookE P kt kv es1 = q at e2
            match q, hl, e2 with
            | some none, hl, e2 =>
              simp only at e2
              obtain ⟨e3, rfl⟩ := lift_some e2
              injection e3 with e3
              exact ⟨none, rfl, e3.symm, rfl⟩
            | some (some (v, n)), hl, e2 =>
              simp only at e2
              obtain ⟨e3, rfl⟩ := lift_some e2
              injection e3 with e3
              exact ⟨some (v, n), rfl, e3.symm, rfl⟩
            | none, hl, e2 => cases e2
          simp only at a2
          generalize hlo : lookE P kt kv es = lo at a2
          match lo, hlo, a2 with
          | some (some (v, n)), hlo, a2 =>
            simp only at a2
            generalize hup : updE P kt kv v es = up at a2
            cases up with
            | none => cases a2
            | some es1 =>
              have a2p : (M.bind (putMap r es1 cl) fun _ => M.pure (.tup [v, .int .i64 (.ofNat n)])) h3 = some (vy, h1) := a2
              clear a2
              have hsame := updE_found hlo hup
              subst hsame
              obtain ⟨_, h5, p1, p2⟩ := bind_some a2p
              obtain ⟨rfl, rfl⟩ := pure_some p2
              have hb1 : h1.bs.get r = some (.map es1 cl) := by
                obtain ⟨b0, b1, u1, u2, u3⟩ := updB_is p1
                rw [hb] at u1; injection u1 with u1; subst u1
                injection u2 with u2; subst u2
                rw [u3]
                exact T.get_set_same _ _ _
              obtain ⟨o, o1, o2, rfl⟩ := after es1 cl hb1
              refine ⟨h3, ?_, e1⟩
              rw [hL, before o o1, o2]
          | some none, hlo, a2 =>
            simp only at a2
            obtain ⟨_, h5, p1, p2⟩ := bind_some a2
            obtain ⟨rfl, rfl⟩ := pure_some p2
            have hb1 : h1.bs.get r = some (.map (lapp es [(kv, z, cl)]) (cl + 1)) := by
              obtain ⟨b0, b1, u1, u2, u3⟩ := updB_is p1
              rw [hb] at u1; injection u1 with u1; subst u1
              injection u2 with u2; subst u2
              rw [u3]
              exact T.get_set_same _ _ _
            obtain ⟨o, o1, o2, rfl⟩ := after _ _ hb1
            refine ⟨h3, ?_, e1⟩
            rw [hL, before none hlo, o2]
            rcases lookE_snoc hlo o1 with rfl | rfl <;> rfl
          | none, _, a2 => cases a2
        · cases a4

/-- what one gives, and what another gives -/
theorem swap_val (hR : GoodR R) {start yi fy xi fx : Nat} {all : List Oper} {oy ox : Oper} {dy dx : Od} {tm : T V} {h : H} (ky : dy.k = kd P oy.op) (kx : dx.k = kd P ox.op) (my : dy.mp = mpOf oy.op) (mx : dx.mp = mpOf ox.op) (fly : okFlag fy dy = true) (flx : okFlag fx dx = true)
    (hok : okPair yi fy dy fx dx = true) (hne : yi ≠ xi) (hg : h.gs ≤ start) (hg2 : fx = 2 → h.gs = start) (hn : h.gs ≤ h.next) (hxi : start + xi < h.next) :
    Swap (valD P R start all oy (yi, fy) tm) (valD P R start all ox (xi, fx) tm) h := by
  rcases val_cases (P := P) (R := R) start all oy (yi, fy) tm with ⟨v, e⟩ | e
  · rw [e]; exact Swap.pureL
  rcases val_cases (P := P) (R := R) start all ox (xi, fx) tm with ⟨v, e'⟩ | e'
  · rw [e']; exact Swap.pureR
  rw [e, e']
  simp only
  obtain ⟨_, _, _, hk⟩ := okPair_some hok
  rcases hk with hk | hk
  rotate_left
  · rw [entPair_eq, my, mx] at hk
    obtain ⟨rfl, t, m, k, q1, q2⟩ := entOk_some hk
    have e1 := mpOf_entry q1
    have e2 := mpOf_look q2
    have fy0 : fy = 0 := by
      unfold okFlag at fly
      rw [ky, e1] at fly
      cases fy with
      | zero => rfl
      | succ n => cases fly
    subst fy0
    rw [e1, e2]
    exact Swap.entLook
  rw [ky, kx] at hk
  unfold okFlag at fly flx
  rw [ky] at fly
  rw [kx] at flx
  have z : ∀ {f : Nat}, (match f with | 0 => true | _ => false) = true → f = 0 := by
    intro f hf
    cases f with
    | zero => rfl
    | succ n => cases hf
  generalize gy : kd P oy.op = k1 at hk fly
  generalize gx : kd P ox.op = k2 at hk flx
  cases k1 with
  | p => rw [z fly, opD_p gy]; exact Swap.pureL
  | l =>
    simp only at fly
    rw [ble_nat] at fly
    cases k2 with
    | p => rw [z flx, opD_p gx]; exact Swap.pureR
    | l => simp only at flx; rw [ble_nat] at flx; exact Swap.reads (isRead gy fly) (isRead gx flx)
    | a => rw [z flx]; exact Swap.readMake (isRead gy fly) gx
    | i n => simp only at flx; rw [ble_nat] at flx; exact Swap.readIns (isRead gy fly) (beq_nat.1 hk) gx flx
    | e => cases hk
  | a =>
    have fy0 := z fly
    subst fy0
    cases k2 with
    | p => rw [z flx, opD_p gx]; exact Swap.pureR
    | l => simp only at flx; rw [ble_nat] at flx; exact Swap.makeRead (isRead gx flx) (oldRead_ne hk) gy
    | a => rw [z flx]; exact Swap.makes gy gx hne
    | i n => simp only at flx; rw [ble_nat] at flx; exact Swap.makeIns gy gx flx (ble_nat.1 hk)
    | e => cases hk
  | i m =>
    simp only at fly
    rw [ble_nat] at fly
    cases k2 with
    | p => rw [z flx, opD_p gx]; exact Swap.pureR
    | l => simp only at flx; rw [ble_nat] at flx; exact Swap.insRead (isRead gx flx) (beq_nat.1 hk) gy fly
    | a => rw [z flx]; exact Swap.insMake gy gx fly
    | i n =>
      simp only at flx
      rw [ble_nat] at flx
      have hk' : bnot (Nat.beq m n) = true := hk
      rw [bnot_eq] at hk'
      have : m ≠ n := by rintro rfl; simp at hk'
      exact Swap.inss gy gx fly flx this
    | e => cases hk
  | e =>
    have fy0 := z fly
    subst fy0
    cases k2 with
    | p => rw [z flx, opD_p gx]; exact Swap.pureR
    | l =>
      have h2 : fx = 2 := beq_nat.1 hk
      subst h2
      exact Swap.anyRead (Good.opD hR _ _ _ _ _) (isRead gx (Nat.le_refl 2)) (hg2 rfl) hn
    | a => rw [z flx]; exact Swap.anyMake (Good.opD hR _ _ _ _ _) gx hg hn hxi
    | i n => cases hk
    | e => cases hk

/-- where a value is put -/
noncomputable def putF (f : Fm) (d : Option Nat) (v : V) : Fm := match d with
  | none => f
  | some d => { f with tm := f.tm.set d v }
theorem put_some {f f' : Fm} {d : Option Nat} {v : V} {h h' : H} (e : put f d v h = some (f', h')) : h' = h ∧ f' = putF f d v ∧ (∀ i, d = some i → i < f.n) := by
  cases d with
  | none => obtain ⟨rfl, rfl⟩ := pure_some e; exact ⟨rfl, rfl, fun _ q => by cases q⟩
  | some d =>
    simp only [put] at e
    generalize hb : Nat.blt d f.n = q at e
    cases q with
    | false => cases e
    | true => obtain ⟨rfl, rfl⟩ := pure_some e; exact ⟨rfl, rfl, fun i q => by injection q with q; subst q; exact blt_nat.1 hb⟩
theorem put_of {f : Fm} {d : Option Nat} {v : V} {h : H} (hd : ∀ i, d = some i → i < f.n) : put f d v h = some (putF f d v, h) := by
  cases d with
  | none => rfl
  | some d =>
    have := blt_nat.2 (hd d rfl)
    simp only [put, this]
    rfl
theorem putF_n (f : Fm) (d : Option Nat) (v : V) : (putF f d v).n = f.n := by cases d <;> rfl
theorem putF_comm {f : Fm} {d e : Option Nat} {v w : V} (h : sameO d e = false) : putF (putF f d v) e w = putF (putF f e w) d v := by
  cases d with
  | none => rfl
  | some d =>
    cases e with
    | none => rfl
    | some e =>
      have hne : d ≠ e := by
        rintro rfl
        simp [sameO] at h
      simp only [putF]
      rw [T.set_comm _ _ _ _ _ hne]
theorem tmpsOf_mem {l : List Operand} {t : Nat} (h : Operand.tmp t ∈ l) : t ∈ tmpsOf l := by
  induction l with
  | nil => cases h
  | cons x l ih =>
    change t ∈ (match x with | .tmp t => t :: tmpsOf l | _ => tmpsOf l)
    rcases List.mem_cons.1 h with rfl | h
    · exact List.mem_cons_self ..
    · have := ih h
      split
      · exact List.mem_cons_of_mem _ this
      · exact this
theorem opd_set {tm : T V} {d : Nat} {v : V} {x : Operand} (h : x ≠ .tmp d) : opd P (tm.set d v) x = opd P tm x := by
  cases x with
  | tmp t =>
    have : t ≠ d := fun q => h (by rw [q])
    simp only [opd, tmpV, T.get_set_ne _ _ this]
  | _ => rfl
/-- what an operation gives does not hang on what it does not look at -/
theorem val_set {start : Nat} {all : List Oper} {o : Oper} {x : Nat × Nat} {f : Fm} {d : Option Nat} {v : V} (h : memO d (looksOf all o) = false) : valD P R start all o x (putF f d v).tm = valD P R start all o x f.tm := by
  cases d with
  | none => rfl
  | some d =>
    have hm : d ∉ looksOf all o := by
      intro q
      have : mem d (looksOf all o) = true := (mem_iff _ _).2 q
      simp only [memO, this] at h
      cases h
    have hops : Same P (f.tm.set d v) f.tm o.op := by
      intro y hy
      apply opd_set
      rintro rfl
      have : d ∈ tmpsOf o.op.operands.toList := tmpsOf_mem (by simpa using hy)
      apply hm
      unfold looksOf
      repeat' split
      all_goals first | exact this | exact List.mem_cons_of_mem _ this
    have hw : wantedV (f.tm.set d v) all o.guard = wantedV f.tm all o.guard := by
      unfold wantedV
      unfold looksOf at hm
      cases hgd : o.guard with
      | none => rfl
      | some g =>
        obtain ⟨j, want⟩ := g
        rw [hgd] at hm
        simp only at hm ⊢
        cases hj : nth all j with
        | none => rfl
        | some p =>
          rw [hj] at hm
          simp only at hm ⊢
          cases hd : p.dst with
          | none => rfl
          | some e =>
            rw [hd] at hm
            simp only at hm ⊢
            have : e ≠ d := by rintro rfl; exact hm (List.mem_cons_self ..)
            rw [T.get_set_ne _ _ this]
    show valD P R start all o x (f.tm.set d v) = _
    unfold valD
    rw [hw]
    split
    · exact opD_congr hops
    · rfl
    · rfl

/-- TWO STEPS, SWAPPED -/
theorem swap_one (hR : GoodR R) {start yi fy xi fx : Nat} {all : List Oper} {oy ox : Oper} {dy dx : Od} {f f1 f2 : Fm} {h h1 h2 : H} (hy : nth all yi = some oy) (hx : nth all xi = some ox)
    (qy : dy.k = kd P oy.op ∧ dy.dst = oy.dst ∧ dy.looks = looksOf all oy ∧ dy.mp = mpOf oy.op) (qx : dx.k = kd P ox.op ∧ dx.dst = ox.dst ∧ dx.looks = looksOf all ox ∧ dx.mp = mpOf ox.op) (fly : okFlag fy dy = true) (flx : okFlag fx dx = true)
    (hok : okPair yi fy dy fx dx = true) (hne : yi ≠ xi) (hg : h.gs ≤ start) (hg2 : fx = 2 → h.gs = start) (hn : h.gs ≤ h.next) (hxi : start + xi < h.next)
    (e1 : oneD P R start all (yi, fy) f h = some (f1, h1)) (e2 : oneD P R start all (xi, fx) f1 h1 = some (f2, h2)) :
    ∃ f1' h1', oneD P R start all (xi, fx) f h = some (f1', h1') ∧ oneD P R start all (yi, fy) f1' h1' = some (f2, h2) := by
  obtain ⟨m1, m2, m3, _⟩ := okPair_some hok
  rw [qy.2.1, qx.2.2.1] at m1
  rw [qx.2.1, qy.2.2.1] at m2
  rw [qx.2.1, qy.2.1] at m3
  rw [oneD_eq hy] at e1
  rw [oneD_eq hx] at e2
  obtain ⟨vy, g1, a1, b1⟩ := bind_some e1
  obtain ⟨rfl, rfl, c1⟩ := put_some b1
  obtain ⟨vx, g2, a2, b2⟩ := bind_some e2
  obtain ⟨rfl, rfl, c2⟩ := put_some b2
  rw [val_set m1] at a2
  rw [putF_n] at c2
  obtain ⟨h1', p1, p2⟩ := swap_val hR (tm := f.tm) (all := all) qy.1 qx.1 qy.2.2.2 qx.2.2.2 fly flx hok hne hg hg2 hn hxi vy _ vx _ a1 a2
  refine ⟨putF f ox.dst vx, h1', ?_, ?_⟩
  · rw [oneD_eq hx, bind_eq p1, put_of c2]
  · have p2' : valD P R start all oy (yi, fy) (putF f ox.dst vx).tm h1' = some (vy, h2) := by rw [val_set m2]; exact p2
    rw [oneD_eq hy, bind_eq p2', put_of (by rw [putF_n]; exact c1), putF_comm m3]
end Go.Ev
/- More fuel gives the same. -/
namespace Go.Ev
open Go
variable {P : Program} {R R' : Recs}

/-- where one comes to an end, so does the other, and alike -/
def Le {α : Type} (m m' : M α) : Prop := ∀ h r, m h = some r → m' h = some r
theorem Le.refl {α : Type} (m : M α) : Le m m := fun _ _ e => e
theorem Le.fail {α : Type} (m : M α) : Le M.fail m := fun _ _ e => by cases e
theorem Le.trans {α : Type} {a b c : M α} (x : Le a b) (y : Le b c) : Le a c := fun h r e => y h r (x h r e)
theorem Le.bind {α β : Type} {m m' : M α} {f f' : α → M β} (hm : Le m m') (hf : ∀ a, Le (f a) (f' a)) : Le (M.bind m f) (M.bind m' f') := by
  intro h r e
  obtain ⟨b, h'⟩ := r
  obtain ⟨a, h1, e1, e2⟩ := bind_some e
  rw [bind_eq (hm h _ e1)]
  exact hf a h1 _ e2
theorem Le.guard {α : Type} {s : Nat} {m m' : M α} (hm : Le m m') : Le (guard s m) (guard s m') := by
  intro h r e
  obtain ⟨n, gs, wr, bs, cl⟩ := h
  simp only [Ev.guard] at e ⊢
  generalize hq : m (.mk n s 0 bs cl) = q at e
  cases q with
  | none => cases e
  | some x => rw [hm _ _ hq]; exact e

structure LeR (R R' : Recs) : Prop where
  code : ∀ c f, Le (R.code c f) (R'.code c f)
  ops : ∀ a l f, Le (R.ops a l f) (R'.ops a l f)
  draw : ∀ a s l f, Le (R.draw a s l f) (R'.draw a s l f)
  call : ∀ f a, Le (R.call f a) (R'.call f a)
  defers : ∀ l, Le (R.defers l) (R'.defers l)

theorem Le.callE (hR : LeR R R') (tm : T V) (c : Call) : Le (callE P R tm c) (callE P R' tm c) := by
  unfold Ev.callE
  repeat' (first | exact Le.refl _ | exact hR.call _ _ | split)
theorem Le.opE (hR : LeR R R') (tm : T V) (o : Op) : Le (opE P R tm o) (opE P R' tm o) := by
  unfold Ev.opE
  cases o <;> first | exact Le.refl _ | exact Le.callE hR _ _
theorem Le.opV (hR : LeR R R') (al : Option Nat) (tm : T V) (o : Op) : Le (opV P R al tm o) (opV P R' al tm o) := by
  unfold Ev.opV
  cases kd P o <;> first | exact Le.refl _ | exact Le.opE hR _ _
theorem Le.oneOp (hR : LeR R R') (al : Option Nat) (all : List Oper) (o : Oper) (f : Fm) : Le (oneOp P R al all o f) (oneOp P R' al all o f) := by
  unfold Ev.oneOp
  split
  · split
    · exact Le.refl _
    · split
      · exact Le.refl _
      · exact Le.bind (Le.opV hR _ _ _) fun _ => Le.refl _
  · exact Le.refl _
  · exact Le.refl _
theorem Le.opsF (hR : LeR R R') (all : Array Oper) (l : List Oper) (f : Fm) : Le (opsF P R all l f) (opsF P R' all l f) := by
  unfold Ev.opsF
  split
  · exact Le.refl _
  · exact Le.bind (Le.oneOp hR _ _ _ _) fun _ => hR.ops _ _ _
theorem Le.opD (hR : LeR R R') (s i fl : Nat) (tm : T V) (o : Op) : Le (opD P R s i fl tm o) (opD P R' s i fl tm o) := by
  unfold Ev.opD
  split
  · exact Le.opV hR _ _ _
  · exact Le.refl _
  · exact Le.refl _
  · exact Le.refl _
theorem Le.oneD (hR : LeR R R') (s : Nat) (all : List Oper) (x : Nat × Nat) (f : Fm) : Le (oneD P R s all x f) (oneD P R' s all x f) := by
  unfold Ev.oneD
  split
  · split
    · exact Le.bind (Le.opD hR _ _ _ _ _) fun _ => Le.refl _
    · exact Le.refl _
    · exact Le.refl _
  · exact Le.refl _
theorem Le.drawF (hR : LeR R R') (all : Array Oper) (s : Nat) (l : List (Nat × Nat)) (f : Fm) : Le (drawF P R all s l f) (drawF P R' all s l f) := by
  unfold Ev.drawF
  split
  · exact Le.refl _
  · exact Le.bind (Le.oneD hR _ _ _ _) fun _ => hR.draw _ _ _ _
theorem Le.regionF (hR : LeR R R') (ops : Array Oper) (d : Bool) (f : Fm) : Le (regionF P R ops d f) (regionF P R' ops d f) := by
  unfold Ev.regionF
  split
  · exact hR.ops _ _ _
  · split
    · refine Le.bind (Le.refl _) fun s => ?_
      split
      · exact Le.guard (hR.draw _ _ _ _)
      · exact hR.draw _ _ _ _
    · exact Le.refl _
theorem Le.rangeF (hR : LeR R R') (g : Operand) (ps : Array Nat) (a b : Code) (f : Fm) : Le (rangeF P R g ps a b f) (rangeF P R' g ps a b f) := by
  unfold Ev.rangeF
  repeat' (first | exact Le.refl _ | exact hR.call _ _ | (refine Le.bind ?_ fun _ => ?_) | split)
theorem Le.roundM (hR : LeR R R') (ml : ML) (f : Fm) (e : V × V) : Le (roundM R ml f e) (roundM R' ml f e) := by
  unfold Ev.roundM
  exact Le.bind (hR.ops _ _ _) fun _ => Le.bind (hR.code _ _) fun _ => Le.refl _
theorem oneE_le (hR : LeR R R') {ml : ML} {f : Fm} {h : H} {e : V × V} {q : Option ((Nat × Nat × Fm) × H)} (hh : oneE R ml f h e = some q) : oneE R' ml f h e = some q := by
  obtain ⟨n, gs, wr, bs, cl⟩ := h
  unfold oneE at hh ⊢
  simp only at hh ⊢
  generalize hs : roundM R ml f e (.mk n n 0 bs cl) = s at hh
  cases s with
  | none => cases hh
  | some s => rw [Le.roundM hR ml f e _ _ hs]; exact hh
theorem eachE_le (hR : LeR R R') {ml : ML} {f : Fm} {h : H} : ∀ {l : List (V × V)} {o : Option ((Nat × Nat × Fm) × H)}, eachE R ml f h l = some o → eachE R' ml f h l = some o
  | [], _, hh => hh
  | a :: l, o, hh => by
    rw [eachE_cons] at hh ⊢
    generalize h1 : oneE R ml f h a = q1 at hh
    match q1, h1, hh with
    | some none, h1, hh =>
      rw [oneE_le hR h1]
      exact eachE_le hR hh
    | some (some r), h1, hh =>
      simp only at hh
      generalize h2 : eachE R ml f h l = q2 at hh
      match q2, h2, hh with
      | some none, h2, hh => rw [oneE_le hR h1, eachE_le hR h2]; exact hh
theorem Le.mapLoopF (hR : LeR R R') (id : Nat) (ml : ML) (f : Fm) : Le (mapLoopF R id ml f) (mapLoopF R' id ml f) := by
  unfold Ev.mapLoopF
  refine Le.bind (Le.refl _) fun p => ?_
  obtain ⟨b, m, l⟩ := p
  simp only
  split
  · intro h r e
    simp only at e ⊢
    generalize hq : eachE R ml (killF f ml.it) (lockH h m b) l = q at e
    cases q with
    | none => cases e
    | some q => rw [eachE_le hR hq]; exact e
  · exact Le.refl _
theorem Le.codeF (hR : LeR R R') (c : Code) (f : Fm) : Le (codeF P R c f) (codeF P R' c f) := by
  cases c <;> simp only [Ev.codeF]
  case region id ops d => exact Le.bind (Le.regionF hR _ _ _) fun _ => Le.refl _
  case seq a b =>
    refine Le.bind (hR.code _ _) fun r => ?_
    obtain ⟨x, id, f⟩ := r
    cases x with
    | zero => exact hR.code _ _
    | succ x => exact Le.refl _
  case cond c a b =>
    unfold Ev.condF
    split
    · exact hR.code _ _
    · exact hR.code _ _
    · exact Le.refl _
  case block id c =>
    split
    · exact Le.mapLoopF hR _ _ _
    · exact Le.bind (hR.code _ _) fun _ => Le.refl _
  case loop c =>
    refine Le.bind (hR.code _ _) fun r => ?_
    obtain ⟨x, id, f⟩ := r
    cases x with
    | zero => exact hR.code _ _
    | succ x => exact Le.refl _
  case scope c => exact hR.code _ _
  case rangeFunc g ps a b => exact Le.rangeF hR _ _ _ _ _
  all_goals exact Le.refl _
theorem Le.defersF (hR : LeR R R') (l : List Df) : Le (defersF R l) (defersF R' l) := by
  unfold Ev.defersF
  repeat' (first | exact Le.refl _ | exact hR.defers _ | exact hR.call _ _ | (refine Le.bind ?_ fun _ => ?_) | split)
theorem Le.leaveF (hR : LeR R R') (fn : Func) (f : Fm) : Le (leaveF P R fn f) (leaveF P R' fn f) := by
  unfold Ev.leaveF
  exact Le.bind (hR.defers _) fun _ => Le.refl _
theorem Le.yieldF (hR : LeR R R') (l : Nat) (args : List V) : Le (yieldF R l args) (yieldF R' l args) := by
  unfold Ev.yieldF
  repeat' (first | exact Le.refl _ | exact hR.code _ _ | (refine Le.bind ?_ fun _ => ?_) | split)
theorem Le.enterF (hR : LeR R R') (K : Known) (k : Nat) (args : List V) : Le (enterF P R K k args) (enterF P R' K k args) := by
  unfold Ev.enterF
  repeat' (first | exact Le.refl _ | exact hR.code _ _ | exact Le.leaveF hR _ _ | (refine Le.bind ?_ fun _ => ?_) | split)
theorem Le.callF (hR : LeR R R') (K : Known) (f : V) (args : List V) : Le (callF P R K f args) (callF P R' K f args) := by
  unfold Ev.callF
  repeat' (first | exact Le.refl _ | exact Le.yieldF hR _ _ | exact Le.enterF hR _ _ _ | exact hR.call _ _ | split)
theorem le_succ (P : Program) (K : Known) : ∀ n, LeR (evN P K n) (evN P K (n + 1))
  | 0 => ⟨fun _ _ => Le.fail _, fun _ _ _ => Le.fail _, fun _ _ _ _ => Le.fail _, fun _ _ => Le.fail _, fun _ => Le.fail _⟩
  | n + 1 => ⟨fun c f => Le.codeF (le_succ P K n) c f, fun a l f => Le.opsF (le_succ P K n) a l f, fun a s l f => Le.drawF (le_succ P K n) a s l f,
      fun f a => Le.callF (le_succ P K n) K f a, fun l => Le.defersF (le_succ P K n) l⟩
/-- a region's run, at one level -/
noncomputable def runD (P : Program) (R : Recs) (start : Nat) (all : List Oper) : List (Nat × Nat) → Fm → M Fm
  | [], f => M.pure f
  | x :: l, f => M.bind (oneD P R start all x f) fun f => runD P R start all l f
theorem Le.runD (hR : LeR R R') (start : Nat) (all : List Oper) : ∀ (l : List (Nat × Nat)) (f : Fm), Le (runD P R start all l f) (runD P R' start all l f)
  | [], _ => Le.refl _
  | _ :: l, _ => Le.bind (Le.oneD hR _ _ _ _) fun f => Le.runD hR start all l f
theorem draw_run (K : Known) (all : Array Oper) (start : Nat) : ∀ (n : Nat) (l : List (Nat × Nat)) (f : Fm), Le ((evN P K n).draw all start l f) (runD P (evN P K n) start all.toList l f)
  | 0, l, f => Le.fail _
  | n + 1, [], f => Le.refl _
  | n + 1, x :: l, f => by
    refine Le.bind (Le.oneD (le_succ P K n) _ _ _ _) fun f => ?_
    exact (draw_run K all start n l f).trans (Le.runD (le_succ P K n) _ _ _ _)
end Go.Ev
/- A drawn region's order: any that keeps the edges gives what the plan gives. -/
namespace Go.Ev
open Go
variable {P : Program} {R : Recs}

/-- what is known of an operation by its number -/
def OdOk (P : Program) (all : List Oper) (t : T Od) (i : Nat) : Prop := ∃ o d, nth all i = some o ∧ t.get i = some d ∧ d.k = kd P o.op ∧ d.dst = o.dst ∧ d.looks = looksOf all o ∧ d.mp = mpOf o.op
/-- y is done ahead of x: x hangs on it, or they may be swapped -/
def May (t : T Od) (y x : Nat × Nat) : Prop := ∀ dx dy, t.get x.1 = some dx → t.get y.1 = some dy → Nat.testBit dx.b y.1 = true ∨ okPair y.1 y.2 dy x.2 dx = true
/-- does not x hang on y? -/
def Free (t : T Od) (x y : Nat × Nat) : Prop := ∀ dx, t.get x.1 = some dx → Nat.testBit dx.b y.1 = false
/-- what a step fits -/
structure Fit (P : Program) (all : List Oper) (t : T Od) (start : Nat) (h : H) (x : Nat × Nat) : Prop where
  od : OdOk P all t x.1
  flag : ∀ d, t.get x.1 = some d → okFlag x.2 d = true
  two : x.2 = 2 → h.gs = start
  there : start + x.1 < h.next

theorem Fit.kept {all : List Oper} {t : T Od} {start : Nat} {h h' : H} {x : Nat × Nat} (f : Fit P all t start h x) (k : Kept h h') : Fit P all t start h' x :=
  ⟨f.od, f.flag, fun q => k.gs.trans (f.two q), Nat.lt_of_lt_of_le f.there k.next⟩

theorem move_front (hR : GoodR R) {start : Nat} {all : List Oper} {t : T Od} {x : Nat × Nat} {post : List (Nat × Nat)} : ∀ (pre : List (Nat × Nat)) (f : Fm) (h : H) (r : Fm × H), h.gs ≤ start → h.gs ≤ h.next →
    (∀ y ∈ pre, Fit P all t start h y) → Fit P all t start h x → (∀ y ∈ pre, y.1 ≠ x.1 ∧ May t y x ∧ Free t x y) →
    runD P R start all (pre ++ x :: post) f h = some r → runD P R start all (x :: (pre ++ post)) f h = some r
  | [], f, h, r, _, _, _, _, _, e => e
  | y :: pre, f, h, r, hg, hn, hy, hx, hm, e => by
    obtain ⟨rf, rh⟩ := r
    obtain ⟨f1, h1, e1, e2⟩ := bind_some e
    have k1 := (Good.oneD (P := P) hR start all y f).ok h f1 h1 e1 hn
    have hg1 : h1.gs ≤ start := by rw [k1.gs]; exact hg
    have hn1 : h1.gs ≤ h1.next := by rw [k1.gs]; exact Nat.le_trans hn k1.next
    have ih := move_front hR pre f1 h1 (rf, rh) hg1 hn1 (fun z hz => (hy z (List.mem_cons_of_mem _ hz)).kept k1) (hx.kept k1) (fun z hz => hm z (List.mem_cons_of_mem _ hz)) e2
    obtain ⟨f2, h2, e3, e4⟩ := bind_some ih
    obtain ⟨hne, hmay, hfree⟩ := hm y (List.mem_cons_self ..)
    have fy := hy y (List.mem_cons_self ..)
    obtain ⟨oy, dy, y1, y2, y3⟩ := fy.od
    obtain ⟨ox, dx, x1, x2, x3⟩ := hx.od
    have hok : okPair y.1 y.2 dy x.2 dx = true := by
      rcases hmay dx dy x2 y2 with q | q
      · rw [hfree dx x2] at q; cases q
      · exact q
    obtain ⟨f1', h1', s1, s2⟩ := swap_one hR (yi := y.1) (fy := y.2) (xi := x.1) (fx := x.2) y1 x1 y3 x3 (fy.flag dy y2) (hx.flag dx x2) hok hne hg hx.two hn hx.there e1 e3
    show M.bind (oneD P R start all x f) (fun f => M.bind (oneD P R start all y f) fun f => runD P R start all (pre ++ post) f) h = _
    rw [bind_eq s1, bind_eq s2]
    exact e4

/-- ANY ORDER THAT KEEPS THE EDGES -/
theorem any_order (hR : GoodR R) {start : Nat} {all : List Oper} {t : T Od} : ∀ (ord l : List (Nat × Nat)) (f : Fm) (h : H) (r : Fm × H), ord.Perm l → (l.map (·.1)).Nodup → l.Pairwise (May t) → ord.Pairwise (Free t) →
    h.gs ≤ start → h.gs ≤ h.next → (∀ y ∈ l, Fit P all t start h y) → runD P R start all l f h = some r → runD P R start all ord f h = some r
  | [], l, f, h, r, hp, _, _, _, _, _, _, e => by
    have := hp.symm.eq_nil; subst this; exact e
  | x :: ord, l, f, h, r, hp, hd, hm, hf, hg, hn, hfit, e => by
    have hxl : x ∈ l := hp.subset (List.mem_cons_self ..)
    obtain ⟨pre, post, rfl⟩ := List.append_of_mem hxl
    have hp' : ord.Perm (pre ++ post) := by
      have h1 := hp.trans List.perm_middle
      exact List.Perm.cons_inv h1
    rw [List.pairwise_cons] at hf
    have hd2 : ∀ y ∈ pre, y.1 ≠ x.1 := by
      intro y hy q
      rw [List.map_append, List.map_cons, List.nodup_append] at hd
      exact hd.2.2 y.1 (List.mem_map_of_mem hy) x.1 (List.mem_cons_self ..) q
    rw [List.pairwise_append] at hm
    have e' := move_front (P := P) hR (t := t) pre f h r hg hn (fun y hy => hfit y (List.mem_append_left _ hy)) (hfit x hxl)
      (fun y hy => ⟨hd2 y hy, hm.2.2 y hy x (List.mem_cons_self ..), hf.1 y (hp'.symm.subset (List.mem_append_left _ hy))⟩) e
    obtain ⟨rf, rh⟩ := r
    obtain ⟨f1, h1, e1, e2⟩ := bind_some e'
    have k1 := (Good.oneD (P := P) hR start all x f).ok h f1 h1 e1 hn
    show M.bind (oneD P R start all x f) (fun f => runD P R start all ord f) h = _
    rw [bind_eq e1]
    refine any_order hR ord (pre ++ post) f1 h1 (rf, rh) hp' ?_ ?_ hf.2 (by rw [k1.gs]; exact hg) (by rw [k1.gs]; exact Nat.le_trans hn k1.next) ?_ e2
    · rw [List.map_append, List.map_cons] at hd
      rw [List.map_append]
      exact hd.sublist (List.Sublist.append_left (List.sublist_cons_self _ _) _)
    · rw [List.pairwise_append]
      exact ⟨hm.1, (List.pairwise_cons.1 hm.2.1).2, fun a ha b hb => hm.2.2 a ha b (List.mem_cons_of_mem _ hb)⟩
    · intro y hy
      refine (hfit y ?_).kept k1
      rcases List.mem_append.1 hy with q | q
      · exact List.mem_append_left _ q
      · exact List.mem_append_right _ (List.mem_cons_of_mem _ q)
end Go.Ev
/- What a plan says. -/
namespace Go.Ev
open Go
variable {P : Program}

noncomputable def odOf (P : Program) (all : List Oper) (t : T Od) (o : Oper) : Od := { b := maskOf t o.after.toList, k := kd P o.op, dst := o.dst, looks := looksOf all o, mp := mpOf o.op }
theorem ods_cons (all : List Oper) (o : Oper) (l : List Oper) (i : Nat) (t : T Od) : odsOf P all (o :: l) i t = odsOf P all l (i + 1) (t.set i (odOf P all t o)) := rfl
theorem ods_lt {all : List Oper} : ∀ (l : List Oper) (i : Nat) (t : T Od) (k : Nat), k < i → (odsOf P all l i t).get k = t.get k
  | [], _, _, _, _ => rfl
  | o :: l, i, t, k, h => by rw [ods_cons, ods_lt l (i + 1) _ k (by omega), T.get_set_ne _ _ (by omega)]
theorem ods_at {all : List Oper} {o : Oper} : ∀ (l : List Oper) (i : Nat) (t : T Od) (m : Nat), l[m]? = some o →
    ∃ t', (∀ j, j < i + m → t'.get j = (odsOf P all l i t).get j) ∧ (odsOf P all l i t).get (i + m) = some (odOf P all t' o)
  | [], _, _, _, h => by simp at h
  | o0 :: l, i, t, 0, h => by
    simp only [List.getElem?_cons_zero] at h
    injection h with h; subst h
    refine ⟨t, fun j hj => ?_, ?_⟩
    · rw [ods_cons, ods_lt l (i + 1) _ j (by omega), T.get_set_ne _ _ (by omega)]
    · rw [ods_cons, ods_lt l (i + 1) _ (i + 0) (by omega)]; exact T.get_set_same _ _ _
  | o0 :: l, i, t, m + 1, h => by
    obtain ⟨t', h1, h2⟩ := ods_at l (i + 1) (t.set i (odOf P all t o0)) m (by simpa using h)
    have e : i + 1 + m = i + (m + 1) := by omega
    rw [e] at h1 h2
    exact ⟨t', h1, h2⟩
theorem mask_bit {t : T Od} {j : Nat} : ∀ {l : List Edge}, Nat.testBit (maskOf t l) j = true → ∃ e ∈ l, binding e = true ∧ (j = e.on ∨ ∃ d, t.get e.on = some d ∧ Nat.testBit d.b j = true)
  | [], h => by
    change Nat.testBit 0 j = true at h
    simp at h
  | e :: l, h => by
    change Nat.testBit (match binding e with
      | true => match t.get e.on with
        | some d => Nat.lor (Nat.lor (Nat.shiftLeft 1 e.on) d.b) (maskOf t l)
        | none => Nat.lor (Nat.shiftLeft 1 e.on) (maskOf t l)
      | false => maskOf t l) j = true at h
    have up : (∃ e' ∈ l, binding e' = true ∧ (j = e'.on ∨ ∃ d, t.get e'.on = some d ∧ Nat.testBit d.b j = true)) → ∃ e' ∈ e :: l, binding e' = true ∧ (j = e'.on ∨ ∃ d, t.get e'.on = some d ∧ Nat.testBit d.b j = true) :=
      fun ⟨e', a, b⟩ => ⟨e', List.mem_cons_of_mem _ a, b⟩
    have one : ∀ n, Nat.testBit (Nat.shiftLeft 1 n) j = true → j = n := by
      intro n hn
      have : Nat.shiftLeft 1 n = 1 <<< n := rfl
      rw [this, Nat.one_shiftLeft, Nat.testBit_two_pow] at hn
      simpa using (of_decide_eq_true hn).symm
    split at h
    · rename_i hb
      split at h
      · rename_i d hd
        have e1 : (Nat.lor (Nat.lor (Nat.shiftLeft 1 e.on) d.b) (maskOf t l)) = ((Nat.shiftLeft 1 e.on) ||| d.b) ||| (maskOf t l) := rfl
        rw [e1, Nat.testBit_or, Nat.testBit_or, Bool.or_eq_true, Bool.or_eq_true] at h
        rcases h with (h | h) | h
        · exact ⟨e, List.mem_cons_self .., hb, .inl (one _ h)⟩
        · exact ⟨e, List.mem_cons_self .., hb, .inr ⟨d, hd, h⟩⟩
        · exact up (mask_bit h)
      · have e1 : (Nat.lor (Nat.shiftLeft 1 e.on) (maskOf t l)) = (Nat.shiftLeft 1 e.on) ||| (maskOf t l) := rfl
        rw [e1, Nat.testBit_or, Bool.or_eq_true] at h
        rcases h with h | h
        · exact ⟨e, List.mem_cons_self .., hb, .inl (one _ h)⟩
        · exact up (mask_bit h)
    · exact up (mask_bit h)
end Go.Ev
/- A plan's order, and any other that keeps the edges. -/
namespace Go.Ev
open Go
variable {P : Program}

/-- does an order keep the edges? -/
def Keeps (all : List Oper) (ord : List Nat) : Prop := ord.Pairwise fun a b => ∀ o, all[a]? = some o → ∀ e ∈ o.after.toList, binding e = true → e.on ≠ b
/-- what an operation hangs on is done ahead of it -/
theorem keeps_free {all : List Oper} {ord : List Nat} (hp : ord.Perm (List.range all.length)) (hk : Keeps all ord) (hb : ∀ i o, all[i]? = some o → ∀ e ∈ o.after.toList, binding e = true → e.on < i) :
    ∀ (a p q b : Nat) (d : Od), p < q → ord[p]? = some a → ord[q]? = some b → (odsOf P all all 0 .e).get a = some d → Nat.testBit d.b b = false := by
  intro a
  induction a using Nat.strongRecOn with
  | ind a ih =>
    intro p q b d hpq hpa hqb hd
    cases hbit : Nat.testBit d.b b with
    | false => rfl
    | true =>
      exfalso
      have hal : a < all.length := by
        have : a ∈ List.range all.length := hp.subset (List.mem_of_getElem? hpa)
        simpa using this
      obtain ⟨t', h1, h2⟩ := ods_at (P := P) (all := all) all 0 .e a (List.getElem?_eq_getElem hal)
      rw [Nat.zero_add] at h1 h2
      rw [hd] at h2; injection h2 with h2; subst h2
      obtain ⟨e, he, hbe, hj⟩ := mask_bit hbit
      have hon : e.on < a := hb a _ (List.getElem?_eq_getElem hal) e he hbe
      have hpw := List.pairwise_iff_getElem.1 hk
      have hpl : p < ord.length := by
        rcases Nat.lt_or_ge p ord.length with q | q
        · exact q
        · rw [List.getElem?_eq_none q] at hpa; cases hpa
      have hga : ord[p] = a := by rw [List.getElem?_eq_getElem hpl] at hpa; injection hpa
      have later : ∀ s x, p < s → ord[s]? = some x → e.on ≠ x := by
        intro s x hps hs
        have hsl : s < ord.length := by
          rcases Nat.lt_or_ge s ord.length with q | q
          · exact q
          · rw [List.getElem?_eq_none q] at hs; cases hs
        have hgs : ord[s] = x := by rw [List.getElem?_eq_getElem hsl] at hs; injection hs
        have := hpw p s hpl hsl hps
        rw [hga, hgs] at this
        exact this _ (List.getElem?_eq_getElem hal) e he hbe
      rcases hj with hj | ⟨d2, hd2, hbit2⟩
      · exact later q b hpq hqb hj.symm
      · rw [h1 _ hon] at hd2
        have hmem : e.on ∈ ord := hp.symm.subset (by simp; omega)
        obtain ⟨s, hsl, hgs⟩ := List.getElem_of_mem hmem
        have hs : ord[s]? = some e.on := by rw [List.getElem?_eq_getElem hsl, hgs]
        rcases Nat.lt_trichotomy s p with q1 | q1 | q1
        · have := ih e.on hon s q b d2 (by omega) hs hqb hd2
          rw [hbit2] at this; cases this
        · subst q1; rw [hga] at hgs; omega
        · exact later s e.on q1 hs rfl
end Go.Ev
/- What okOrder looks at. -/
namespace Go.Ev
open Go
variable {P : Program}

theorem okAll_cons (t : T Od) (x : Nat × Nat) (dx : Od) (y : Nat × Nat) (prev : List (Nat × Nat)) : okAll t x dx (y :: prev) = (match Nat.testBit dx.b y.1 with
  | true => okAll t x dx prev
  | false => match t.get y.1 with
    | some dy => match okPair y.1 y.2 dy x.2 dx with
      | true => okAll t x dx prev
      | false => false
    | none => false) := rfl
theorem okAll_may {t : T Od} {x : Nat × Nat} {dx : Od} (hx : t.get x.1 = some dx) : ∀ {prev : List (Nat × Nat)}, okAll t x dx prev = true → ∀ y ∈ prev, May t y x
  | [], _, y, hy => by cases hy
  | z :: prev, h, y, hy => by
    rw [okAll_cons] at h
    have both : (Nat.testBit dx.b z.1 = true ∨ ∃ dz, t.get z.1 = some dz ∧ okPair z.1 z.2 dz x.2 dx = true) ∧ okAll t x dx prev = true := by
      split at h
      · rename_i hb; exact ⟨.inl hb, h⟩
      · split at h
        · rename_i dz hz
          split at h
          · rename_i ho; exact ⟨.inr ⟨dz, hz, ho⟩, h⟩
          · cases h
        · cases h
    rcases List.mem_cons.1 hy with rfl | hy
    · intro dx' dy hx' hy'
      rw [hx] at hx'; injection hx' with hx'; subst hx'
      rcases both.1 with q | ⟨dz, hz, ho⟩
      · exact .inl q
      · rw [hz] at hy'; injection hy' with hy'; subst hy'; exact .inr ho
    · exact okAll_may hx both.2 y hy
theorem okOrder_cons (n : Nat) (t : T Od) (x : Nat × Nat) (l : List (Nat × Nat)) (seen : Nat) (prev : List (Nat × Nat)) : okOrder n t (x :: l) seen prev = (match t.get x.1 with
    | some d => match Nat.blt x.1 n, Nat.testBit seen x.1, Nat.beq (Nat.land d.b seen) d.b, okFlag x.2 d with
      | true, false, true, true => match okAll t x d prev with
        | true => okOrder n t l (Nat.lor seen (Nat.shiftLeft 1 x.1)) (x :: prev)
        | false => false
      | _, _, _, _ => false
    | none => false) := rfl
structure Plan (n : Nat) (t : T Od) (l : List (Nat × Nat)) (seen : Nat) (prev : List (Nat × Nat)) : Prop where
  all : ∀ x ∈ l, x.1 < n ∧ Nat.testBit seen x.1 = false ∧ ∃ d, t.get x.1 = some d ∧ okFlag x.2 d = true
  nodup : (l.map (·.1)).Nodup
  may : l.Pairwise (May t)
  prev : ∀ y ∈ prev, ∀ x ∈ l, May t y x
  whole : ∀ i, i < n → Nat.testBit seen i = true ∨ i ∈ l.map (·.1)
theorem okOrder_plan {n : Nat} {t : T Od} : ∀ (l : List (Nat × Nat)) (seen : Nat) (prev : List (Nat × Nat)), okOrder n t l seen prev = true → Plan n t l seen prev
  | [], seen, prev, h => by
    change Nat.beq seen (2 ^ n - 1) = true at h
    rw [beq_nat] at h
    subst h
    refine ⟨by simp, by simp, by simp, by simp, fun i hi => .inl ?_⟩
    rw [Nat.testBit_two_pow_sub_one]; simpa using hi
  | x :: l, seen, prev, h => by
    rw [okOrder_cons] at h
    split at h
    · rename_i d hd
      split at h
      · rename_i h1 h2 h3 h4
        split at h
        · rename_i h5
          have ih := okOrder_plan l _ _ h
          have bit : ∀ i, Nat.testBit (Nat.lor seen (Nat.shiftLeft 1 x.1)) i = (Nat.testBit seen i || decide (x.1 = i)) := by
            intro i
            have : Nat.lor seen (Nat.shiftLeft 1 x.1) = seen ||| (1 <<< x.1) := rfl
            rw [this, Nat.testBit_or, Nat.one_shiftLeft, Nat.testBit_two_pow]
          have fresh : ∀ y ∈ l, Nat.testBit seen y.1 = false ∧ x.1 ≠ y.1 := by
            intro y hy
            have := (ih.all y hy).2.1
            rw [bit] at this
            simpa using this
          refine ⟨?_, ?_, ?_, ?_, ?_⟩
          · intro y hy
            rcases List.mem_cons.1 hy with rfl | hy
            · exact ⟨blt_nat.1 h1, h2, d, hd, h4⟩
            · exact ⟨(ih.all y hy).1, (fresh y hy).1, (ih.all y hy).2.2⟩
          · rw [List.map_cons, List.nodup_cons]
            refine ⟨fun q => ?_, ih.nodup⟩
            obtain ⟨y, hy, e⟩ := List.mem_map.1 q
            exact (fresh y hy).2 e.symm
          · rw [List.pairwise_cons]
            exact ⟨fun y hy => ih.prev x (List.mem_cons_self ..) y hy, ih.may⟩
          · intro y hy z hz
            rcases List.mem_cons.1 hz with rfl | hz
            · exact okAll_may hd h5 y hy
            · exact ih.prev y (List.mem_cons_of_mem _ hy) z hz
          · intro i hi
            rcases ih.whole i hi with q | q
            · rw [bit] at q
              rcases Bool.or_eq_true .. ▸ q with q | q
              · exact .inl q
              · exact .inr (by rw [List.map_cons]; rw [of_decide_eq_true q]; exact List.mem_cons_self ..)
            · exact .inr (by rw [List.map_cons]; exact List.mem_cons_of_mem _ q)
        · cases h
      · cases h
    · cases h
end Go.Ev
/- A region that draws its order: the plan, and any order that keeps the edges. -/
namespace Go.Ev
open Go
variable {P : Program} {R : Recs}

theorem perm_map {α β : Type} {f : α → β} : ∀ (b : List β) (l : List α), b.Perm (l.map f) → ∃ a : List α, a.Perm l ∧ a.map f = b
  | [], l, h => by
    have := h.symm.eq_nil
    rw [List.map_eq_nil_iff] at this
    subst this
    exact ⟨[], .refl _, rfl⟩
  | x :: b, l, h => by
    have hx : x ∈ l.map f := h.subset (List.mem_cons_self ..)
    obtain ⟨y, hy, rfl⟩ := List.mem_map.1 hx
    obtain ⟨pre, post, rfl⟩ := List.append_of_mem hy
    have h2 : (f y :: b).Perm (f y :: (pre ++ post).map f) := by
      refine h.trans ?_
      rw [List.map_append, List.map_append, List.map_cons]
      exact List.perm_middle
    obtain ⟨a, h3, h4⟩ := perm_map b (pre ++ post) (List.Perm.cons_inv h2)
    exact ⟨y :: a, (h3.cons y).trans List.perm_middle.symm, by rw [List.map_cons, h4]⟩

theorem okEdges_cons (o : Oper) (l : List Oper) (i : Nat) : okEdges (o :: l) i = (match o.after.toList.all (fun e => match binding e with | true => Nat.blt e.on i | false => true) with
    | true => okEdges l (i + 1)
    | false => false) := rfl
theorem okEdges_back : ∀ (l : List Oper) (i : Nat), okEdges l i = true → ∀ m o, l[m]? = some o → ∀ e ∈ o.after.toList, binding e = true → e.on < i + m
  | [], _, _, m, o, h => by simp at h
  | o0 :: l, i, h, m, o, hm => by
    rw [okEdges_cons] at h
    split at h
    · rename_i ha
      cases m with
      | zero =>
        simp only [List.getElem?_cons_zero] at hm
        injection hm with hm; subst hm
        intro e he hb
        have := List.all_eq_true.1 ha e he
        rw [hb] at this
        exact blt_nat.1 this
      | succ m =>
        intro e he hb
        have := okEdges_back l (i + 1) h m o (by simpa using hm) e he hb
        omega
    · cases h
end Go.Ev
/- planOf, and any order. -/
namespace Go.Ev
open Go
variable {P : Program} {R : Recs}

theorem planOf_some {ops : Array Oper} {pl : List (Nat × Nat)} (h : planOf P ops = some pl) :
    okEdges ops.toList 0 = true ∧ okOrder ops.size (odsOf P ops.toList ops.toList 0 .e) pl 0 [] = true := by
  simp only [planOf, llen_eq] at h
  have hl : ops.toList.length = ops.size := by simp
  rw [hl] at h
  split at h
  · rename_i h1
    split at h
    · rename_i h2
      injection h with h; subst h
      exact ⟨h1, h2⟩
    · cases h
  · cases h
theorem needs_two : ∀ {l : List (Nat × Nat)} {x : Nat × Nat}, x ∈ l → x.2 = 2 → needs l = true
  | y :: l, x, hx, h => by
    change (match y.2 with | 2 => true | _ => needs l) = true
    rcases List.mem_cons.1 hx with rfl | hx
    · rw [h]; rfl
    · have := needs_two hx h
      split
      · rfl
      · exact this

/-- THE PLAN, AND ANY ORDER -/
theorem plan_any (hR : GoodR R) {ops : Array Oper} {pl : List (Nat × Nat)} (hpl : planOf P ops = some pl) {ord : List Nat} (hp : ord.Perm (List.range ops.size)) (hk : Keeps ops.toList ord) :
    ∃ ord' : List (Nat × Nat), ord'.map (·.1) = ord ∧ (∀ x ∈ ord', ∃ o, ops[x.1]? = some o ∧ okFlag x.2 { b := 0, k := kd P o.op, dst := none, looks := [] } = true) ∧
      ∀ start f (h : H) r, h.gs ≤ start → h.gs ≤ h.next → (needs pl = true → h.gs = start) → start + ops.size ≤ h.next → runD P R start ops.toList pl f h = some r → runD P R start ops.toList ord' f h = some r := by
  obtain ⟨he, ho⟩ := planOf_some hpl
  have plan := okOrder_plan pl 0 [] ho
  have hlen : ops.toList.length = ops.size := by simp
  have back := okEdges_back ops.toList 0 he
  have hpm : (pl.map (·.1)).Perm (List.range ops.size) := by
    refine (List.perm_ext_iff_of_nodup plan.nodup List.nodup_range).2 fun i => ?_
    rw [List.mem_range]
    constructor
    · intro hi
      obtain ⟨x, hx, rfl⟩ := List.mem_map.1 hi
      exact (plan.all x hx).1
    · intro hi
      rcases plan.whole i hi with q | q
      · simp at q
      · exact q
  obtain ⟨ord', h1, h2⟩ := perm_map ord pl (hp.trans hpm.symm)
  have odok : ∀ x ∈ pl, OdOk P ops.toList (odsOf P ops.toList ops.toList 0 .e) x.1 := by
    intro x hx
    have hlt := (plan.all x hx).1
    obtain ⟨t', _, q⟩ := ods_at (P := P) (all := ops.toList) ops.toList 0 .e x.1 (List.getElem?_eq_getElem (by rw [hlen]; exact hlt))
    rw [Nat.zero_add] at q
    exact ⟨_, _, by rw [nth_eq]; exact List.getElem?_eq_getElem (by rw [hlen]; exact hlt), q, rfl, rfl, rfl, rfl⟩
  refine ⟨ord', h2, ?_, ?_⟩
  · intro x hx
    have hxp := h1.subset hx
    obtain ⟨o, d, o1, o2, o3, _⟩ := odok x hxp
    obtain ⟨_, _, d', d1, d2⟩ := plan.all x hxp
    rw [o2] at d1; injection d1 with d1; subst d1
    rw [nth_eq] at o1
    refine ⟨o, by simpa using o1, ?_⟩
    unfold okFlag at d2 ⊢
    rw [o3] at d2
    exact d2
  · intro start f h r hg hn hnd hst e
    refine any_order hR ord' pl f h r h1 plan.nodup plan.may ?_ hg hn ?_ e
    · rw [List.pairwise_iff_getElem]
      intro p q hpl' hql hpq dx hdx
      have := keeps_free (P := P) (all := ops.toList) (ord := ord) (by rw [hlen]; exact hp) hk (fun i o hi e he hb => by have := back i o hi e he hb; omega) (ord'[p]).1 p q (ord'[q]).1 dx hpq
        (by rw [← h2, List.getElem?_map, List.getElem?_eq_getElem hpl']; rfl) (by rw [← h2, List.getElem?_map, List.getElem?_eq_getElem hql]; rfl) hdx
      exact this
    · intro y hy
      refine ⟨odok y hy, fun d hd => ?_, fun q => hnd (needs_two hy q), ?_⟩
      · obtain ⟨_, _, d', d1, d2⟩ := plan.all y hy
        rw [hd] at d1; injection d1 with d1; subst d1; exact d2
      · have := (plan.all y hy).1; omega
end Go.Ev
/- Frames, and what the machine does with them. -/
namespace Go.Ev
open Go
variable {P : Program}

def frm (b : Frame) (tmps : Array Value) (ds : List Deferred) (todo : List Item) : Frame :=
  { fn := b.fn, tmps, todo, defers := ds, mode := .run, kind := b.kind, roundOf := b.roundOf }
def evalT (tmps : Array Value) : Operand → Value := ({ tmps, defers := [] } : Act).eval
theorem frm_eval (b : Frame) (tmps : Array Value) (ds : List Deferred) (todo : List Item) : (frm b tmps ds todo).eval = evalT tmps := by
  funext x; cases x <;> rfl
abbrev gor (fr : Frame) (cs : List Frame) : Goroutine := { frame := fr, callers := cs, status := .running, dying := none }

section moves
variable {b : Frame} {tmps : Array Value} {ds : List Deferred} {k : List Item} {cs : List Frame} {w : World}
theorem st_skip : step P (lone (frm b tmps ds (.code .skip :: k)) cs w) = .next (lone (frm b tmps ds k) cs w) := step_lone_go (by simp [stepG, stepG.exec, frm])
theorem st_label {l : Nat} : step P (lone (frm b tmps ds (.code (.label l) :: k)) cs w) = .next (lone (frm b tmps ds k) cs w) := step_lone_go (by simp [stepG, stepG.exec, frm])
theorem st_inBlock {id : Nat} : step P (lone (frm b tmps ds (.inBlock id :: k)) cs w) = .next (lone (frm b tmps ds k) cs w) := step_lone_go (by simp [stepG, stepG.exec, frm])
theorem st_inScope {c : Code} : step P (lone (frm b tmps ds (.inScope c :: k)) cs w) = .next (lone (frm b tmps ds k) cs w) := step_lone_go (by simp [stepG, stepG.exec, frm])
theorem st_seq {x y : Code} : step P (lone (frm b tmps ds (.code (.seq x y) :: k)) cs w) = .next (lone (frm b tmps ds (.code x :: .code y :: k)) cs w) := step_lone_go (by simp [stepG, stepG.exec, frm])
theorem st_cond {c : Operand} {x y : Code} {t : Bool} (h : evalT tmps c = .bool t) : step P (lone (frm b tmps ds (.code (.cond c x y) :: k)) cs w) = .next (lone (frm b tmps ds (.code (if t then x else y) :: k)) cs w) :=
  step_lone_go (by
    have := congrFun (frm_eval b tmps ds (.code (.cond c x y) :: k)) c
    simp only [frm] at *
    simp [stepG, stepG.exec, this, h])
theorem st_block {id : Nat} {c : Code} : step P (lone (frm b tmps ds (.code (.block id c) :: k)) cs w) = .next (lone (frm b tmps ds (.code c :: .inBlock id :: k)) cs w) := step_lone_go (by simp [stepG, stepG.exec, frm])
theorem st_scope {c : Code} : step P (lone (frm b tmps ds (.code (.scope c) :: k)) cs w) = .next (lone (frm b tmps ds (.code c :: .inScope c :: k)) cs w) := step_lone_go (by simp [stepG, stepG.exec, frm])
theorem st_loop {c : Code} : step P (lone (frm b tmps ds (.code (.loop c) :: k)) cs w) = .next (lone (frm b tmps ds (.code c :: .inLoop c :: k)) cs w) := step_lone_go (by simp [stepG, stepG.exec, frm])
theorem st_inLoop {c : Code} : step P (lone (frm b tmps ds (.inLoop c :: k)) cs w) = .next (lone (frm b tmps ds (.code c :: .inLoop c :: k)) cs w) := step_lone_go (by simp [stepG, stepG.exec, frm])
theorem st_exit {id : Nat} {k' : List Item} (h : exitTo id k = some k') : step P (lone (frm b tmps ds (.code (.exit id) :: k)) cs w) = .next (lone (frm b tmps ds k') cs w) := step_lone_go (by simp [stepG, stepG.exec, frm, h])
theorem st_region {id : Nat} {ops : Array Oper} : step P (lone (frm b tmps ds (.code (.region id ops false) :: k)) cs w) = .next (lone (frm b tmps ds (.inRegion ops (List.range ops.size) :: k)) cs w) := step_lone_go (by simp [stepG, stepG.exec, frm])
theorem st_draw {id : Nat} {ops : Array Oper} : step P (lone (frm b tmps ds (.code (.region id ops true) :: k)) cs w) =
    .next (lone (frm b tmps ds (.inRegion ops (Region.schedule (P.follows .mixedOrders) ops (w.tape w.drawn (.order b.fn id))) :: k)) cs { w with drawn := w.drawn + 1 }) :=
  step_lone_go (by simp [stepG, stepG.exec, frm, choose, Sem.run, Question.forced, Question.cut])
theorem st_end {ops : Array Oper} : step P (lone (frm b tmps ds (.inRegion ops [] :: k)) cs w) = .next (lone (frm b tmps ds k) cs w) := step_lone_go (by simp [stepG, stepG.exec, frm])
end moves

/-- a place's value -/
def putT (tmps : Array Value) (dst : Option Tmp) (v : Value) : Array Value := match dst with
  | some d => tmps.setIfInBounds d v
  | none => tmps
theorem frm_finish (b : Frame) (tmps : Array Value) (ds : List Deferred) (ops : Array Oper) (i : Nat) (rest : List Nat) (k : List Item) (v : Value) :
    (frm b tmps ds (.inRegion ops (i :: rest) :: k)).finish v = frm b (putT tmps ((ops[i]?).bind (·.dst)) v) ds (.inRegion ops rest :: k) := by
  cases h : (ops[i]?).bind (·.dst) <;> simp [Frame.finish, frm, putT, h]

-- A CALL

/-- a frame that leaves with a value -/
def Leaves (P : Program) (fr : Frame) (cs : List Frame) (w : World) (v : Value) (w' : World) : Prop :=
  (stepG P true (gor fr cs) w).bare = (doReturn P true fr cs none v w').bare
/-- what a frame stands on: if it is a deferred call's, one that does not panic -/
def Calm (kind : CallKind) (cs : List Frame) : Prop := kind ≠ .wrapped ∧ (kind = .deferred → ∃ c l, cs = c :: l ∧ c.mode = .returning)
theorem Calm.normal (cs : List Frame) : Calm .normal cs := ⟨by simp, by simp⟩
/-- what a frame comes to, on whatever it stands -/
def Gives (P : Program) (fr0 : Frame) (w : World) (v : Value) (w' : World) : Prop := ∀ cs, Calm fr0.kind cs → ∃ fr w2, Steps P (lone fr0 cs w) (lone fr cs w2) ∧ fr.kind = fr0.kind ∧ Leaves P fr cs w2 v w'
/-- a function's frame: how it stands at its end -/
def Ends (P : Program) (fr0 : Frame) (w : World) (v : Value) (w' : World) : Prop := ∀ cs, Calm fr0.kind cs → ∃ fr, Steps P (lone fr0 cs w) (lone fr cs w') ∧ fr.kind = fr0.kind ∧ fr.fn = fr0.fn ∧ fr.mode = .returning ∧ fr.defers = [] ∧
  ∃ fn, P.funcs[fr.fn]? = some fn ∧ (results fn fr.tmps).run P w' = .ok v w'
theorem Ends.gives {fr0 : Frame} {w w' : World} {v : Value} (h : Ends P fr0 w v w') : Gives P fr0 w v w' := by
  intro cs hc
  obtain ⟨fr, hs, hk, _, hm, hd, fn, hf, hr⟩ := h cs hc
  refine ⟨fr, w', hs, hk, ?_⟩
  simp only [Leaves, stepG, hm, unwind, hd, hf, Sem.runT_eq, hr]
  simp
/-- what a call comes to, whoever calls -/
def Calling (P : Program) (s : Sem Next) (w : World) (v : Value) (w' : World) : Prop :=
  ∃ nx w1, s.run P w = .ok nx w1 ∧ match nx with
    | .value x => x = v ∧ w' = w1
    | .skip => v = undef ∧ w' = w1
    | .enter k args => ∀ kind, Ends P (Frame.enter P k args kind) w1 v w'
    | .round l k tmps a b => ∀ kind, Gives P (Frame.round l k tmps a b kind) w1 v w'
    | _ => False
theorem Calling.congr {s s' : Sem Next} {w w' : World} {v : Value} (h : Calling P s w v w') (e : s'.run P w = s.run P w) : Calling P s' w v w' := by
  obtain ⟨nx, w1, h1, h2⟩ := h
  exact ⟨nx, w1, e.trans h1, h2⟩

theorem Gives.normal {fr0 c : Frame} {cs : List Frame} {w w' : World} {v : Value} (h : Gives P fr0 w v w') (hk : fr0.kind = .normal) : Steps P (lone fr0 (c :: cs) w) (lone (c.finish v) cs w') := by
  obtain ⟨fr, w2, hs, hk', hl⟩ := h (c :: cs) (by rw [hk]; exact Calm.normal _)
  refine hs.trans (.one (step_lone_go ?_))
  rw [hk] at hk'
  unfold Leaves gor at hl
  rw [hl]
  simp [doReturn, hk']
theorem Gives.deferred {fr0 c : Frame} {cs : List Frame} {w w' : World} {v : Value} (h : Gives P fr0 w v w') (hk : fr0.kind = .deferred) (hm : c.mode = .returning) : Steps P (lone fr0 (c :: cs) w) (lone c cs w') := by
  obtain ⟨fr, w2, hs, hk', hl⟩ := h (c :: cs) (by rw [hk]; exact ⟨by simp, fun _ => ⟨c, cs, rfl, hm⟩⟩)
  refine hs.trans (.one (step_lone_go ?_))
  rw [hk] at hk'
  unfold Leaves gor at hl
  rw [hl]
  simp [doReturn, hk', hm]

def NoWrap (todo : List Item) : Prop := ∀ d r s k, todo ≠ .call d true r s :: k
theorem Calling.steps {fr0 fr : Frame} {cs : List Frame} {s : Sem Next} {w0 w w' : World} {v : Value} (hst : (stepG P true (gor fr0 cs) w0).bare = (stepG.apply P true fr cs none s w).bare) (hn : NoWrap fr.todo) (h : Calling P s w v w') :
    Steps P (lone fr0 cs w0) (lone (fr.finish v) cs w') := by
  obtain ⟨nx, w1, h1, h2⟩ := h
  have kd : (match fr.todo with | .call _ true _ _ :: _ => CallKind.wrapped | _ => .normal) = .normal := by
    split
    · rename_i heq; exact absurd heq (hn _ _ _ _)
    · rfl
  cases nx with
  | value x =>
    obtain ⟨rfl, rfl⟩ := h2
    refine .one (step_lone_go ?_)
    unfold gor at hst
    rw [hst]
    simp [stepG.apply, h1]
  | skip =>
    obtain ⟨rfl, rfl⟩ := h2
    refine .one (step_lone_go ?_)
    unfold gor at hst
    rw [hst]
    simp [stepG.apply, h1]
  | enter k args =>
    refine .head (step_lone_go ?_) ((h2 .normal).gives.normal rfl)
    unfold gor at hst
    rw [hst]
    simp only [stepG.apply, Sem.runT_eq, h1]
    rw [GStep.bare_after]
    exact congrArg (fun q => GStep.go { frame := Frame.enter P k args q, callers := fr :: cs, status := .running, dying := none } w1) kd
  | round l k tmps a b =>
    refine .head (step_lone_go ?_) ((h2 .normal).normal rfl)
    unfold gor at hst
    rw [hst]
    simp only [stepG.apply, Sem.runT_eq, h1]
    rw [GStep.bare_after]
    rfl
  | _ => exact h2.elim

-- AN OPERATION

/-- is an operation a deferred call? -/
def isDefer (o : Op) : Bool := match o with
  | .defer _ => true
  | _ => false
theorem st_op {b : Frame} {tmps : Array Value} {ds : List Deferred} {k : List Item} {cs : List Frame} {w : World} {ops : Array Oper} {i : Nat} {rest : List Nat} {o : Oper} (ho : ops[i]? = some o)
    (hw : Region.wanted o (yielded ops tmps) = true) (hd : isDefer o.op = false ∨ b.roundOf = none) :
    stepG P true (gor (frm b tmps ds (.inRegion ops (i :: rest) :: k)) cs) w = stepG.apply P true (frm b tmps ds (.inRegion ops (i :: rest) :: k)) cs none (execOp (evalT tmps) o) w := by
  have he := frm_eval b tmps ds (.inRegion ops (i :: rest) :: k)
  simp only [frm] at *
  simp only [stepG, stepG.exec, stepG.oper, Frame.oper?, ho, hw, he, Option.map_some, Option.getD_some, if_true]
  split
  · rename_i hr hop
    rcases hd with hd | hd
    · rw [hop] at hd; cases hd
    · rw [hd] at hr; cases hr
  · rfl
theorem st_op_skip {b : Frame} {tmps : Array Value} {ds : List Deferred} {k : List Item} {cs : List Frame} {w : World} {ops : Array Oper} {i : Nat} {rest : List Nat} {o : Oper} (ho : ops[i]? = some o)
    (hw : Region.wanted o (yielded ops tmps) = false) :
    step P (lone (frm b tmps ds (.inRegion ops (i :: rest) :: k)) cs w) = .next (lone (frm b (putT tmps o.dst undef) ds (.inRegion ops rest :: k)) cs w) := by
  have e := frm_finish b tmps ds ops i rest k undef
  rw [ho] at e
  simp only [Option.bind_some] at e
  rw [← e]
  refine step_lone_go ?_
  simp only [frm] at *
  simp [stepG, stepG.exec, ho, hw]
end Go.Ev
/- Calls; an operation. -/
namespace Go.Ev
open Go
variable {P : Program} {G : Nat → Option (List V)} {R : Recs} {ρ : Rn} {h : H} {w : World}

/-- what stays, wherever one is: the program's variables; those that nobody writes -/
structure Ctx (P : Program) (G : Nat → Option (List V)) (ρ : Rn) (h : H) : Prop where
  gl : GlR P ρ
  ro : ∀ g r, G g = some r → h.bs.get g = some (.ro r)
theorem Ctx.ext {ρ' : Rn} {h' : H} {w' : World} (c : Ctx P G ρ h) (x : Ext ρ h w ρ' h' w') : Ctx P G ρ' h' := ⟨c.gl.mono x.le, fun g r e => x.ro g _ (c.ro g r e)⟩

/-- a function value, called -/
def inv (f : Value) (args : Array Value) : Sem Next := do
  let d ← Deferred.ofValue f args
  invoke d.target d.args
/-- calls are sound -/
def SCall (P : Program) (G : Nat → Option (List V)) (R : Recs) : Prop := ∀ f args (h : H) v h', R.call f args h = some (v, h') → ∀ ρ w f' args', HR P ρ h w → Ctx P G ρ h → VR ρ f f' → VRs ρ args args' →
  ∃ ρ' v' w', Ext ρ h w ρ' h' w' ∧ HR P ρ' h' w' ∧ VR ρ' v v' ∧ Calling P (inv f' args'.toArray) w v' w'

theorem VR.iface_inv {t : Nat} {v : V} {x : Value} (h : VR ρ (.iface t v) x) : ∃ v', x = .iface t v' ∧ VR ρ v v' := by cases h; exact ⟨_, rfl, ‹_›⟩

/-- a method of a type, and its receiver -/
theorem methodF_sound {t k : Nat} {name : String} (h : methodF P t name = some k) (n : Nat) (v : Value) : (method (n + 1) t v name).run P w = .ok (k, v) w := by
  unfold methodF at h
  split at h
  · rename_i i hi
    split at h
    · rename_i m hm
      split at h
      · rename_i hp
        split at h
        · rename_i f ptr hf
          have hm' : i.methods.find? (·.name == name) = some m := by rw [← Array.find?_toList]; exact hm
          simp only [method, Sem.run_bind, r_info hi, Result.andThen_ok, hm', hp, follow, Sem.run_pure, hf]
          split at h
          · rename_i e hu
            split at h
            · injection h with h; subst h
              simp only [receiverAt, Sem.run_bind, r_und hu, Result.andThen_ok, Place.get, Sem.run_pure]
            · cases h
          · rename_i d hn hu
            split at h
            · cases h
            · injection h with h; subst h
              simp only [receiverAt, Sem.run_bind, r_und hu, Result.andThen_ok]
              cases d <;> first | exact absurd rfl (hn _) | simp only [Place.get, Sem.run_pure, Result.andThen_ok]
          · cases h
        · cases h
      · cases h
    · cases h
  · cases h

theorem callMethod_run {t k : Nat} {name : String} (h : methodF P t name = some k) (v : Value) (args : Array Value) : (callMethod (.iface t v) name args).run P w = (callFunc k (#[v] ++ args)).run P w := by
  simp only [callMethod, Sem.run_bind, program, Sem.run, Result.andThen_ok]
  have : (P.types.size + Made.depth) = (P.types.size + (Made.depth - 1)) + 1 := rfl
  rw [this, methodF_sound h]
  simp only [Result.andThen_ok]
theorem inv_func (k : Nat) (args : Array Value) (first cap : Array Value) : (inv (.func (.func k) first cap) args).run P w = (callFunc k (first ++ args ++ cap)).run P w := by
  simp only [inv, Deferred.ofValue, Sem.run_bind, Sem.run_pure, Result.andThen_ok, invoke]

theorem callE_sound (hs : SCall P G R) {tm : T V} {ev : Operand → Value} {c : Call} {ty : Nat} {v : V} {h' : H} (hr : HR P ρ h w) (hc : Ctx P G ρ h) (e : callE P R tm c h = some (v, h')) (hx : ∀ x, VR ρ (opd P tm x) (ev x)) (hn : ∀ b, c.callee ≠ .builtin b) :
    ∃ ρ' v' w', Ext ρ h w ρ' h' w' ∧ HR P ρ' h' w' ∧ VR ρ' v v' ∧ Calling P (do let d ← resolve ev c ty; invoke d.target d.args) w v' w' := by
  obtain ⟨callee, args, ats⟩ := c
  have ha := opds_sound hx args
  cases callee with
  | builtin b => exact absurd rfl (hn b)
  | value f =>
    simp only [callE] at e
    obtain ⟨ρ', v', w', a, b, c, d⟩ := hs _ _ _ _ _ e ρ w (ev f) _ hr hc (hx f) ha
    refine ⟨ρ', v', w', a, b, c, d.congr ?_⟩
    simp only [inv, resolve, Array.toArray_toList]
  | invoke r name =>
    simp only [callE] at e
    have hrr := hx r
    generalize opd P tm r = q at e hrr
    cases q with
    | iface t v0 =>
      simp only at e
      obtain ⟨v0', hv0, hv⟩ := hrr.iface_inv
      generalize hk : methodF P t name = mk at e
      cases mk with
      | none => cases e
      | some k =>
        obtain ⟨ρ', v', w', a, b, c, d⟩ := hs _ _ _ _ _ e ρ w (.func (.func k) #[] #[]) _ hr hc (.fn (.func k) [] [] [] [] (fun _ h => by cases h) .nil .nil) (.cons _ _ _ _ hv ha)
        refine ⟨ρ', v', w', a, b, c, d.congr ?_⟩
        rw [inv_func]
        simp only [resolve, hv0, Sem.run_bind, Sem.run_pure, Result.andThen_ok, invoke]
        have h0 : (#[Value.iface t v0'] ++ args.map ev)[0]? = some (.iface t v0') := by rw [Array.getElem?_append_left (by simp)]; rfl
        simp only [h0]
        rw [callMethod_run hk]
        congr 2
        apply Array.toList_inj.1
        simp
        exact List.take_of_length_le (by simp)
    | _ => cases e

/-- an operation, whichever -/
theorem opV_calling (hs : SCall P G R) {al : Option Nat} {o : Oper} {tm : T V} {ev : Operand → Value} {v : V} {h' : H} (hr : HR P ρ h w) (hc : Ctx P G ρ h) (e : opV P R al tm o.op h = some (v, h')) (hx : ∀ x, VR ρ (opd P tm x) (ev x)) :
    ∃ ρ' v' w', Ext ρ h w ρ' h' w' ∧ HR P ρ' h' w' ∧ VR ρ' v v' ∧ Calling P (execOp ev o) w v' w' := by
  by_cases hn : isCall o.op = false
  · obtain ⟨ρ', w', n, v', a, b, c, d, f⟩ := opV_sound hr e hx hn
    refine ⟨ρ', v', w', c, d, f, n, w', a, ?_⟩
    rcases b with rfl | ⟨rfl, rfl⟩
    · exact ⟨rfl, rfl⟩
    · exact ⟨rfl, rfl⟩
  · obtain ⟨dst, op, ty, pos, after, guard⟩ := o
    cases op with
    | call c =>
      obtain ⟨callee, args, ats⟩ := c
      have hkd : ∀ b, callee ≠ .builtin b := by
        rintro b rfl
        cases b <;> first | (simp [isCall] at hn; done) | skip
        simp only [opV, kd, opE, callE, builtinE] at e
        cases e
      have e' : callE P R tm ⟨callee, args, ats⟩ h = some (v, h') := by
        cases callee with
        | builtin b => exact absurd rfl (hkd b)
        | value f => exact e
        | invoke r n => exact e
      exact callE_sound hs hr hc e' hx hkd
    | _ => exact absurd rfl hn
end Go.Ev
/- An operation of a frame. -/
namespace Go.Ev
open Go
variable {P : Program} {G : Nat → Option (List V)} {R : Recs} {ρ : Rn} {h : H} {w : World}

inductive DfR (ρ : Rn) : Df → Deferred → Prop where
  | mark (id : Nat) (loc : Loc) (h : ρ id = some loc) : DfR ρ (.mark id) { target := .collected loc.blk, args := #[] }
  | call (k : Nat) (a c : List V) (a' c' : List Value) (ha : VRs ρ a a') (hc : VRs ρ c c') : DfR ρ (.call (.fn (.func k) a c)) { target := .fn (.func k) c'.toArray, args := a'.toArray }
inductive DfsR (ρ : Rn) : List Df → List Deferred → Prop where
  | nil : DfsR ρ [] []
  | cons (d : Df) (d' : Deferred) (l : List Df) (l' : List Deferred) (h : DfR ρ d d') (hs : DfsR ρ l l') : DfsR ρ (d :: l) (d' :: l')
theorem DfR.mono {ρ' : Rn} (hle : ρ.le ρ') {d : Df} {d' : Deferred} (h : DfR ρ d d') : DfR ρ' d d' := by
  cases h with
  | mark id loc h => exact .mark id loc (hle _ _ h)
  | call k a c a' c' ha hc => exact .call k a c a' c' (ha.mono hle) (hc.mono hle)
theorem DfsR.mono {ρ' : Rn} (hle : ρ.le ρ') {l : List Df} {l' : List Deferred} (h : DfsR ρ l l') : DfsR ρ' l l' := by
  induction h with
  | nil => exact .nil
  | cons d d' l l' h hs ih => exact .cons _ _ _ _ (h.mono hle) ih

def RdR (ρ : Rn) (rd : Option Nat) (r : Option Nat) : Prop := match rd with
  | none => r = none
  | some l => ∃ loc, ρ l = some loc ∧ r = some loc.blk
/-- a frame, and the evaluator's -/
structure FR (ρ : Rn) (b : Frame) (f : Fm) (tmps : Array Value) (ds : List Deferred) : Prop where
  tm : TmR ρ f.tm f.n tmps
  low : ∀ t, f.n ≤ t → f.tm.get t = none
  fn : f.fn = b.fn
  rd : RdR ρ f.rd b.roundOf
  ds : DfsR ρ f.defers ds
theorem RdR.mono {ρ' : Rn} (hle : ρ.le ρ') {a b : Option Nat} (h : RdR ρ a b) : RdR ρ' a b := by
  cases a with
  | none => exact h
  | some l => obtain ⟨loc, x, y⟩ := h; exact ⟨loc, hle _ _ x, y⟩
theorem FR.mono {ρ' : Rn} (hle : ρ.le ρ') {b : Frame} {f : Fm} {tmps : Array Value} {ds : List Deferred} (h : FR ρ b f tmps ds) : FR ρ' b f tmps ds :=
  ⟨h.tm.mono hle, h.low, h.fn, h.rd.mono hle, h.ds.mono hle⟩
theorem FR.hx {b : Frame} {f : Fm} {tmps : Array Value} {ds : List Deferred} (hf : FR ρ b f tmps ds) (hc : Ctx P G ρ h) (x : Operand) : VR ρ (opd P f.tm x) (evalT tmps x) :=
  opd_sound hc.gl (fun t => tmp_sound hf.tm t (hf.low t)) (fun _ => rfl) (fun _ => rfl) (fun _ => rfl) x

theorem tmpV_set_same (tm : T V) (d : Nat) (v : V) : tmpV (tm.set d v) d = v := by unfold tmpV; rw [T.get_set_same]
theorem tmpV_set_ne {tm : T V} {d i : Nat} (v : V) (h : i ≠ d) : tmpV (tm.set d v) i = tmpV tm i := by unfold tmpV; rw [T.get_set_ne _ _ h]
theorem TmR.set {tm : T V} {n d : Nat} {tmps : Array Value} {v : V} {v' : Value} (h : TmR ρ tm n tmps) (hd : d < n) (hv : VR ρ v v') : TmR ρ (tm.set d v) n (tmps.setIfInBounds d v') := by
  refine ⟨by simp [h.1], fun i hi => ?_⟩
  by_cases q : i = d
  · subst q
    rw [tmpV_set_same]
    have : (tmps.setIfInBounds i v').getD i undef = v' := by simp [Array.getD, h.1, hi]
    rw [this]; exact hv
  · rw [tmpV_set_ne _ q]
    have : (tmps.setIfInBounds d v').getD i undef = tmps.getD i undef := by
      have q' : d ≠ i := fun e => q e.symm
      simp [Array.getD, h.1, hi, q']
    rw [this]; exact h.2 i hi
theorem low_set {tm : T V} {n d : Nat} {v : V} (h : ∀ t, n ≤ t → tm.get t = none) (hd : d < n) : ∀ t, n ≤ t → (tm.set d v).get t = none := by
  intro t ht; rw [T.get_set_ne _ _ (by omega)]; exact h t ht
theorem putF_sound {b : Frame} {f f' : Fm} {tmps : Array Value} {ds : List Deferred} {d : Option Nat} {v : V} {v' : Value} {h' : H} (hf : FR ρ b f tmps ds) (hv : VR ρ v v') (e : put f d v h = some (f', h')) :
    h' = h ∧ FR ρ b f' (putT tmps d v') ds := by
  obtain ⟨rfl, rfl, hd⟩ := put_some e
  refine ⟨rfl, ?_⟩
  cases d with
  | none => exact hf
  | some d => exact ⟨hf.tm.set (hd d rfl) hv, low_set hf.low (hd d rfl), hf.fn, hf.rd, hf.ds⟩

theorem wanted_sound {tm : T V} {n : Nat} {tmps : Array Value} {ops : Array Oper} {o : Oper} {x : Bool} (ht : TmR ρ tm n tmps) (hl : ∀ t, n ≤ t → tm.get t = none) (e : wantedV tm ops.toList o.guard = some x) :
    Region.wanted o (yielded ops tmps) = x := by
  unfold Region.wanted
  unfold wantedV at e
  split at e
  · rename_i hg; injection e with e; subst e; rw [hg]
  · rename_i j want hg
    rw [hg]
    simp only
    rw [nth_eq] at e
    split at e
    · rename_i oj hj
      have hj' : ops[j]? = some oj := by simpa using hj
      split at e
      · rename_i d hd
        have key : yielded ops tmps j = match tmps[d]? with | some (.bool b) => some b | _ => none := by
          unfold yielded; rw [hj']; simp only [Option.bind_some, hd]; rfl
        rw [key]
        have at_ : d < n → tmps[d]? = some (tmps.getD d undef) := by
          intro hdn
          have : d < tmps.size := by rw [ht.1]; exact hdn
          simp [Array.getD, this]
        have no : n ≤ d → tmps[d]? = none := by
          intro hdn; exact Array.getElem?_eq_none (by rw [ht.1]; exact hdn)
        split at e
        · rename_i b hb
          injection e with e; subst e
          have hdn : d < n := by
            rcases Nat.lt_or_ge d n with q | q
            · exact q
            · rw [hl d q] at hb; cases hb
          have := ht.2 d hdn
          unfold tmpV at this
          rw [hb] at this
          rw [at_ hdn, VR.bool_inv this]
          simp only [beq_eq]
          cases b <;> cases want <;> rfl
        · cases e
        · rename_i hnb hbad
          injection e with e; subst e
          rcases Nat.lt_or_ge d n with q | q
          · rw [at_ q]
            have := ht.2 d q
            unfold tmpV at this
            generalize tmps.getD d undef = z at this
            generalize tm.get d = y at this hnb hbad
            cases y with
            | none => cases this; rfl
            | some y => cases this <;> first | rfl | exact absurd rfl (hnb _) | exact absurd rfl hbad
          · rw [no q]; rfl
      · rename_i hd
        injection e with e; subst e
        have key : yielded ops tmps j = none := by unfold yielded; rw [hj']; simp only [Option.bind_some, hd]; rfl
        rw [key]; rfl
    · rename_i hj
      have hj' : ops[j]? = none := by simpa using hj
      injection e with e; subst e
      have key : yielded ops tmps j = none := by unfold yielded; rw [hj']; rfl
      rw [key]; rfl

/-- what a step comes to -/
def Out (P : Program) (ρ : Rn) (h : H) (w : World) (b : Frame) (f' : Fm) (h' : H) (T : Array Value → List Deferred → World → Prop) : Prop :=
  ∃ ρ' tmps' ds' w', Ext ρ h w ρ' h' w' ∧ HR P ρ' h' w' ∧ FR ρ' b f' tmps' ds' ∧ T tmps' ds' w'
/-- frames of one function, and one loop -/
def Alike (b b' : Frame) : Prop := b'.fn = b.fn ∧ b'.roundOf = b.roundOf
/-- one step of a region -/
def OpTo (P : Program) (b : Frame) (ops : Array Oper) (i : Nat) (tmps : Array Value) (ds : List Deferred) (w : World) (tmps' : Array Value) (ds' : List Deferred) (w' : World) : Prop :=
  ∀ b', Alike b b' → ∀ rest k cs, Calm b'.kind cs → Steps P (lone (frm b' tmps ds (.inRegion ops (i :: rest) :: k)) cs w) (lone (frm b' tmps' ds' (.inRegion ops rest :: k)) cs w')

theorem noWrap_region {ops : Array Oper} {l : List Nat} {k : List Item} : NoWrap (.inRegion ops l :: k) := by intro d r s k' h; cases h
theorem opStep (hs : SCall P G R) {al : Option Nat} {ops : Array Oper} {i : Nat} {o : Oper} {b : Frame} {f f' : Fm} {tmps : Array Value} {ds : List Deferred} {v : V} {h1 h' : H} (ho : ops[i]? = some o) (hr : HR P ρ h w) (hc : Ctx P G ρ h)
    (hf : FR ρ b f tmps ds) (hw : wantedV f.tm ops.toList o.guard = some true) (hd : isDefer o.op = false) (e : opV P R al f.tm o.op h = some (v, h1)) (e2 : put f o.dst v h1 = some (f', h')) :
    Out P ρ h w b f' h' (OpTo P b ops i tmps ds w) := by
  obtain ⟨ρ', v', w', a, b', c, d⟩ := opV_calling hs (o := o) hr hc e (hf.hx hc)
  obtain ⟨rfl, hf'⟩ := putF_sound (hf.mono a.le) c e2
  refine ⟨ρ', _, _, w', a, b', hf', fun b hal rest k cs _ => ?_⟩
  have hw' := wanted_sound hf.tm hf.low hw
  have := d.steps (fr0 := frm b tmps ds (.inRegion ops (i :: rest) :: k)) (cs := cs) (fr := frm b tmps ds (.inRegion ops (i :: rest) :: k)) (w0 := w) (congrArg GStep.bare (st_op ho hw' (.inl hd))) noWrap_region
  rw [frm_finish, ho] at this
  exact this
theorem skipStep {ops : Array Oper} {i : Nat} {o : Oper} {b : Frame} {f f' : Fm} {tmps : Array Value} {ds : List Deferred} {h' : H} (ho : ops[i]? = some o) (hr : HR P ρ h w)
    (hf : FR ρ b f tmps ds) (hw : wantedV f.tm ops.toList o.guard = some false) (e : put f o.dst (.tup []) h = some (f', h')) : Out P ρ h w b f' h' (OpTo P b ops i tmps ds w) := by
  obtain ⟨rfl, hf'⟩ := putF_sound (v' := undef) hf (.tup [] [] .nil) e
  exact ⟨ρ, _, _, w, Ext.refl _ _ _, hr, hf', fun b hal rest k cs _ => .one (st_op_skip ho (wanted_sound hf.tm hf.low hw))⟩

theorem tryRecover_none {b : Frame} {tmps : Array Value} {ds : List Deferred} {k : List Item} {cs : List Frame} (hc : Calm b.kind cs) : tryRecover (frm b tmps ds k) cs = none := by
  unfold tryRecover
  have hk : (frm b tmps ds k).kind = b.kind := rfl
  rw [hk]
  obtain ⟨h1, h2⟩ := hc
  cases hq : b.kind <;> first | (exact absurd hq h1) | skip
  case deferred =>
    obtain ⟨c, l, rfl, hm⟩ := h2 hq
    simp only [hm]
  all_goals rfl

theorem isRecover_inv {o : Op} (h : isRecover o = true) : ∃ c, o = .call c ∧ c.callee = .builtin .recover := by
  unfold isRecover at h
  split at h
  · rename_i c
    split at h
    · rename_i hc; exact ⟨c, rfl, hc⟩
    · cases h
  · cases h
theorem recoverStep {ops : Array Oper} {i : Nat} {o : Oper} {b : Frame} {f f' : Fm} {tmps : Array Value} {ds : List Deferred} {h' : H} (ho : ops[i]? = some o) (hr : HR P ρ h w)
    (hf : FR ρ b f tmps ds) (hw : wantedV f.tm ops.toList o.guard = some true) (hre : isRecover o.op = true) (e : recoverV f o.dst h = some (f', h')) : Out P ρ h w b f' h' (OpTo P b ops i tmps ds w) := by
  unfold recoverV at e
  generalize hrd : f.rd = q at e
  cases q with
  | some _ => cases e
  | none =>
    obtain ⟨rfl, hf'⟩ := putF_sound (v' := .nilIface) hf .nili e
    refine ⟨ρ, _, _, w, Ext.refl _ _ _, hr, hf', fun b hal rest k cs hcs => .one (step_lone_go ?_)⟩
    have hb : b.roundOf = none := by have := hf.rd; rw [hrd] at this; exact hal.2.trans this
    obtain ⟨c, hop, hcal⟩ := isRecover_inv hre
    have hd : isDefer o.op = false := by rw [hop]; rfl
    have hst := st_op (P := P) (b := b) (ds := ds) (k := k) (cs := cs) (w := w) (rest := rest) ho (wanted_sound hf.tm hf.low hw) (.inl hd)
    unfold gor at hst
    rw [hst]
    have hrun : (execOp (evalT tmps) o).run P w = .ok .recover w := by
      simp only [execOp, hop, resolve, hcal, Sem.run_bind, Sem.run_pure, Result.andThen_ok, invoke, builtin]
    have hro : (frm b tmps ds (.inRegion ops (i :: rest) :: k)).roundOf = none := hb
    simp only [stepG.apply, Sem.runT_eq, hrun, hro, tryRecover_none hcs]
    rw [GStep.bare_after]
    have := frm_finish b tmps ds ops i rest k .nilIface
    rw [ho] at this
    rw [this]
    rfl

theorem deferStep {ops : Array Oper} {i : Nat} {o : Oper} {c : Call} {b : Frame} {f f' : Fm} {tmps : Array Value} {ds : List Deferred} {h' : H} (ho : ops[i]? = some o) (hr : HR P ρ h w) (hc : Ctx P G ρ h)
    (hf : FR ρ b f tmps ds) (hw : wantedV f.tm ops.toList o.guard = some true) (hop : o.op = .defer c) (e : deferV P f c o.dst h = some (f', h')) : Out P ρ h w b f' h' (OpTo P b ops i tmps ds w) := by
  obtain ⟨callee, args, ats⟩ := c
  unfold deferV at e
  cases callee with
  | builtin _ => cases e
  | invoke _ _ => cases e
  | value g =>
    simp only at e
    generalize hargs : args.toList = la at e
    cases la with
    | cons _ _ => cases e
    | nil =>
      generalize hrd : f.rd = q at e
      cases q with
      | some _ => cases e
      | none =>
        have hg := hf.hx hc g
        simp only at e
        generalize hfn : opd P f.tm g = vg at e
        rw [hfn] at hg
        have hb : b.roundOf = none := by have := hf.rd; rw [hrd] at this; exact this
        have ha0 : args = #[] := Array.toList_inj.1 hargs
        match vg, hg, e with
        | .fn (.func k) a cc, hg, e =>
          generalize hz : evalT tmps g = z at hg
          cases hg with
          | fn _ _ _ a' c' _ ha hcc =>
            have hf2 : FR ρ b { tm := f.tm, n := f.n, fn := f.fn, defers := .call (.fn (.func k) a cc) :: f.defers, rd := none } tmps ({ target := .fn (.func k) c'.toArray, args := a'.toArray } :: ds) :=
              ⟨hf.tm, hf.low, hf.fn, hb, .cons _ _ _ _ (.call k a cc a' c' ha hcc) hf.ds⟩
            obtain ⟨rfl, hf'⟩ := putF_sound (v' := undef) hf2 (.tup [] [] .nil) e
            refine ⟨ρ, _, _, w, Ext.refl _ _ _, hr, hf', fun b hal rest k' cs hcs => .one (step_lone_go ?_)⟩
            have hb := hal.2.trans hb
            have hst := st_op (P := P) (b := b) (ds := ds) (k := k') (cs := cs) (w := w) (rest := rest) ho (wanted_sound hf.tm hf.low hw) (.inr hb)
            unfold gor at hst
            rw [hst]
            have hrun : (execOp (evalT tmps) o).run P w = .ok (.defer { target := .fn (.func k) c'.toArray, args := a'.toArray }) w := by
              simp only [execOp, hop, resolve, hz, ha0, Deferred.ofValue, Sem.run_bind, Sem.run_pure, Result.andThen_ok]
              simp
            simp only [stepG.apply, Sem.runT_eq, hrun]
            rw [GStep.bare_after]
            have := frm_finish b tmps ({ target := .fn (.func k) c'.toArray, args := a'.toArray } :: ds) ops i rest k' undef
            rw [ho] at this
            exact congrArg (fun fr => GStep.go { frame := fr, callers := cs, status := .running, dying := none } w) this

/-- ONE STEP -/
theorem oneOp_sound (hs : SCall P G R) {al : Option Nat} {ops : Array Oper} {i : Nat} {o : Oper} {b : Frame} {f f' : Fm} {tmps : Array Value} {ds : List Deferred} {h' : H} (ho : ops[i]? = some o) (hr : HR P ρ h w) (hc : Ctx P G ρ h)
    (hf : FR ρ b f tmps ds) (e : oneOp P R al ops.toList o f h = some (f', h')) : Out P ρ h w b f' h' (OpTo P b ops i tmps ds w) := by
  unfold oneOp at e
  generalize hw : wantedV f.tm ops.toList o.guard = q at e
  match q, hw, e with
  | none, hw, e => cases e
  | some false, hw, e => exact skipStep ho hr hf hw e
  | some true, hw, e =>
    by_cases hd : isDefer o.op = true
    · obtain ⟨dst, op, ty, pos, after, guard⟩ := o
      cases op <;> first | (cases hd; done) | skip
      case defer c => exact deferStep ho hr hc hf hw rfl e
    · have hd : isDefer o.op = false := by simpa using hd
      have e' : (match isRecover o.op with
        | true => recoverV f o.dst
        | false => M.bind (opV P R al f.tm o.op) fun v => put f o.dst v) h = some (f', h') := by
        obtain ⟨dst, op, ty, pos, after, guard⟩ := o
        cases op <;> first | exact e | (cases hd; done)
      generalize hre : isRecover o.op = q at e'
      cases q with
      | true => exact recoverStep ho hr hf hw hre e'
      | false =>
        obtain ⟨v, h1, e1, e2⟩ := bind_some e'
        exact opStep hs ho hr hc hf hw hd e1 e2
end Go.Ev
/- The machine's orders of a region keep its edges. -/
namespace Go.Ev
open Go
variable {P : Program}

theorem binding_eq (e : Edge) : binding e = Region.binds .any e := by
  unfold binding Region.binds
  cases e.ground <;> rfl

theorem getD_true_set {listed : Array Bool} {i j : Nat} (hi : i < listed.size) : (listed.setIfInBounds i true).getD j true = false ↔ listed.getD j true = false ∧ j ≠ i := by
  by_cases q : j = i
  · subst q
    simp [Array.getD, hi]
  · have q' : i ≠ j := fun e => q e.symm
    by_cases hj : j < listed.size
    · simp [Array.getD, hj, q, q']
    · simp [Array.getD, hj]

theorem go_spec {ops : Array Oper} (hb : ∀ i o, ops[i]? = some o → ∀ e ∈ o.after.toList, binding e = true → e.on < i) :
    ∀ (fuel t : Nat) (listed : Array Bool) (acc u : List Nat), listed.size = ops.size → u.Nodup → (∀ i, i ∈ u ↔ i < ops.size ∧ listed.getD i true = false) → u.length ≤ fuel →
      ∃ l, Region.linearise.go .any ops fuel t listed acc = acc.reverse ++ l ∧ l.Perm u ∧ l.Pairwise fun a b => ∀ o, ops[a]? = some o → ∀ e ∈ o.after.toList, binding e = true → e.on ≠ b := by
  intro fuel
  induction fuel with
  | zero =>
    intro t listed acc u hs hn hu hl
    have : u = [] := by cases u with | nil => rfl | cons => simp at hl
    subst this
    exact ⟨[], by simp [Region.linearise.go], .refl _, .nil⟩
  | succ fuel ih =>
    intro t listed acc u hs hn hu hl
    simp only [Region.linearise.go]
    generalize hrs : ((List.range ops.size).filter fun i => !listed.getD i true && ((ops[i]?).map (·.after.all fun e => !Region.binds .any e || listed.getD e.on false)).getD false) = rs
    have mem : ∀ i, i ∈ rs ↔ i < ops.size ∧ listed.getD i true = false ∧ ((ops[i]?).map (·.after.all fun e => !Region.binds .any e || listed.getD e.on false)).getD false = true := by
      intro i; rw [← hrs, List.mem_filter, List.mem_range]; simp
    cases hp : rs[t % rs.length]? with
    | none =>
      have hrs0 : rs = [] := by
        cases rs with
        | nil => rfl
        | cons a l =>
          have : t % (a :: l).length < (a :: l).length := Nat.mod_lt _ (by simp)
          rw [List.getElem?_eq_getElem this] at hp; cases hp
      have hu0 : u = [] := by
        have none_ : ∀ i, i ∉ u := by
          intro i
          induction i using Nat.strongRecOn with
          | ind i ihi =>
            intro hi
            obtain ⟨h1, h2⟩ := (hu i).1 hi
            have : i ∈ rs := by
              refine (mem i).2 ⟨h1, h2, ?_⟩
              rw [Array.getElem?_eq_getElem h1]
              simp only [Option.map_some, Option.getD_some]
              rw [Array.all_eq_true']
              intro e he
              by_cases hbe : binding e = true
              · have hlt := hb i _ (Array.getElem?_eq_getElem h1) e (by simpa using he) hbe
                have hnu := ihi e.on hlt
                have : listed.getD e.on false = true := by
                  cases hq : listed.getD e.on true with
                  | false => exact absurd ((hu e.on).2 ⟨by omega, hq⟩) hnu
                  | true =>
                    have hlt' : e.on < listed.size := by omega
                    simp [Array.getD, hlt'] at hq ⊢; exact hq
                rw [this]; simp
              · rw [binding_eq] at hbe
                simp [hbe]
            rw [hrs0] at this; cases this
        cases u with
        | nil => rfl
        | cons a l => exact absurd (List.mem_cons_self ..) (none_ a)
      subst hu0
      exact ⟨[], by simp, .refl _, .nil⟩
    | some i =>
      have him : i ∈ rs := List.mem_of_getElem? hp
      obtain ⟨h1, h2, h3⟩ := (mem i).1 him
      have hiu : i ∈ u := (hu i).2 ⟨h1, h2⟩
      have hil : i < listed.size := by omega
      obtain ⟨l, e1, e2, e3⟩ := ih (t / rs.length) (listed.setIfInBounds i true) (i :: acc) (u.erase i) (by simpa using hs) (hn.erase i)
        (fun j => by rw [List.Nodup.mem_erase_iff hn, hu j, getD_true_set hil]; exact ⟨fun ⟨a, b, c⟩ => ⟨b, c, a⟩, fun ⟨b, c, a⟩ => ⟨a, b, c⟩⟩)
        (by rw [List.length_erase_of_mem hiu]; omega)
      refine ⟨i :: l, by simp only; rw [e1]; simp, (List.Perm.cons i e2).trans (List.perm_cons_erase hiu).symm, ?_⟩
      rw [List.pairwise_cons]
      refine ⟨fun b hbl o ho e he hbe => ?_, e3⟩
      rintro rfl
      have hbu : e.on ∈ u.erase i := e2.subset hbl
      rw [List.Nodup.mem_erase_iff hn] at hbu
      obtain ⟨hne, hbu⟩ := hbu
      have h4 := ((hu e.on).1 hbu).2
      rw [ho] at h3
      simp only [Option.map_some, Option.getD_some] at h3
      rw [Array.all_eq_true'] at h3
      have := h3 e (by simpa using he)
      rw [binding_eq] at hbe
      rw [hbe] at this
      simp only [Bool.not_true, Bool.false_or] at this
      simp only [Array.getD] at h4 this
      split at this
      · rename_i hlt
        simp [hlt] at h4
        have this' : listed[e.on] = true := this
        rw [h4] at this'; cases this'
      · cases this

/-- THE ORDERS THAT THE MACHINE DRAWS -/
theorem schedule_keeps {ops : Array Oper} (hm : P.follows .mixedOrders = true) (he : okEdges ops.toList 0 = true) (t : Nat) :
    (Region.schedule (P.follows .mixedOrders) ops t).Perm (List.range ops.size) ∧ Keeps ops.toList (Region.schedule (P.follows .mixedOrders) ops t) := by
  have back := okEdges_back ops.toList 0 he
  have hb : ∀ i o, ops[i]? = some o → ∀ e ∈ o.after.toList, binding e = true → e.on < i := by
    intro i o ho e hee hbe
    have := back i o (by simpa using ho) e hee hbe
    omega
  obtain ⟨l, e1, e2, e3⟩ := go_spec hb ops.size t (Array.replicate ops.size false) [] (List.range ops.size) (by simp) List.nodup_range
    (fun i => by rw [List.mem_range]; exact ⟨fun h => ⟨h, by simp [Array.getD, h]⟩, fun h => h.1⟩) (by simp)
  have e : Region.schedule (P.follows .mixedOrders) ops t = l := by
    unfold Region.schedule
    rw [hm]
    simp only [Bool.true_or, if_true]
    unfold Region.linearise
    rw [e1]; simp
  rw [e]
  refine ⟨e2, e3.imp fun {a b} h o ho => h o ?_⟩
  simpa using ho
end Go.Ev
/- Regions. -/
namespace Go.Ev
open Go
variable {P : Program} {G : Nat → Option (List V)} {R : Recs} {ρ : Rn} {h : H} {w : World}

theorem insS_setS {n : Nat} {v : V} : ∀ {es es' : List (Nat × V)}, insS n v es = some es' → setS n v es = es'
  | [], es', e => by
    change some [(n, v)] = some es' at e
    injection e
  | x :: l, es', e => by
    change (match Nat.beq x.1 n with
      | true => none
      | false => match Nat.ble n x.1 with
        | true => some ((n, v) :: x :: l)
        | false => match insS n v l with
          | some r => some (x :: r)
          | none => none) = some es' at e
    change (match Nat.beq x.1 n with
      | true => (n, v) :: l
      | false => match Nat.ble n x.1 with
        | true => (n, v) :: x :: l
        | false => x :: setS n v l) = es'
    cases h1 : Nat.beq x.1 n with
    | true => rw [h1] at e; cases e
    | false =>
      rw [h1] at e
      cases h2 : Nat.ble n x.1 with
      | true => rw [h2] at e; injection e
      | false =>
        rw [h2] at e
        simp only at e ⊢
        cases h3 : insS n v l with
        | none => rw [h3] at e; cases e
        | some r =>
          rw [h3] at e
          injection e with e
          rw [insS_setS h3]; exact e

theorem insertV_upd {t bound : Nat} {x k v : V} {h h' : H} {u : Unit} (e : insertV P t bound x k v h = some (u, h')) : mapUpdV P t x k v h = some (u, h') := by
  unfold insertV at e
  unfold mapUpdV
  generalize P.underlying t = d at e ⊢
  match d, e with
  | some (.map kt el), e =>
    simp only at e ⊢
    generalize keyOk P kt k = ko at e ⊢
    match ko, e with
    | true, e =>
      match x, e with
      | .map r, e =>
        simp only at e ⊢
        generalize Nat.blt r bound = bl at e
        match bl, e with
        | true, e =>
          match k, e with
          | .int j (.ofNat n), e =>
            simp only at e ⊢
            obtain ⟨b, b', h1, h2, h3⟩ := updB_some e
            obtain ⟨h3, h4, h5, h6⟩ := h3
            have : updM P kt (.int j (.ofNat n)) v b = some b' := by
              match b, h2 with
              | .smap kd es, h2 =>
                simp only [updM] at h2 ⊢
                generalize sameK kd j = sk at h2 ⊢
                match sk, h2 with
                | true, h2 =>
                  simp only at h2 ⊢
                  generalize hi : insS n v es = q at h2
                  match q, h2 with
                  | some es', h2 =>
                    rw [insS_setS hi]; exact h2
            obtain ⟨n0, gs0, wr0, bs0, cl0⟩ := h
            have hb : bs0.get r = some b := h1
            simp only [updB, hb, h2] at e
            simp only [updB, hb, this]
            exact e

theorem opD_opV {start i fx : Nat} {tm : T V} {o : Op} {v : V} {h h' : H} (fl : okFlag fx { b := 0, k := kd P o, dst := none, looks := [] } = true) (e : opD P R start i fx tm o h = some (v, h')) :
    opV P R (some (start + i)) tm o h = some (v, h') := by
  match fx, fl, e with
  | 0, fl, e => exact e
  | 1, fl, e =>
    have hk : kd P o = .l := by
      unfold okFlag at fl
      simp only at fl
      generalize kd P o = q at fl
      cases q <;> first | rfl | cases fl
    unfold opV
    rw [hk]
    simp only
    unfold opL
    unfold opD at e
    simp only at e
    generalize readAt P tm o = ra at e ⊢
    cases ra with
    | none => exact e
    | some b =>
      simp only at e ⊢
      generalize Nat.blt b start = bl at e
      match bl, e with
      | true, e =>
        obtain ⟨x, h1, e1, e2⟩ := bind_some e
        rw [bind_eq e1]
        cases x <;> first | exact e2 | cases e2
  | 2, fl, e =>
    have hk : kd P o = .l := by
      unfold okFlag at fl
      simp only at fl
      generalize kd P o = q at fl
      cases q <;> first | rfl | cases fl
    unfold opV
    rw [hk]
    simp only
    unfold opL
    unfold opD at e
    simp only at e
    generalize readAt P tm o = ra at e ⊢
    cases ra with
    | none => exact e
    | some b =>
      simp only at e ⊢
      obtain ⟨x, h1, e1, e2⟩ := bind_some e
      obtain ⟨rfl, g1, g2, g3, g4⟩ := getOld_some e1
      have : getL b h1 = some (x, h1) := by
        obtain ⟨n, gs, wr, bs, cl⟩ := h1
        have g3' : bs.get b = some x := g3
        unfold getL M.bind
        simp only [getB, g3']
        cases x with
        | cells c ee k =>
          have : k = 0 := g4
          subst this
          rfl
        | _ => rfl
      rw [bind_eq this]
      exact e2
  | m + 3, fl, e =>
    unfold opD at e
    simp only at e
    match o, fl, e with
    | .insert t x k y, fl, e =>
      have hk : ∃ n, kd P (.insert t x k y) = .i n := by
        unfold okFlag at fl
        simp only at fl
        generalize kd P (.insert t x k y) = q at fl
        cases q <;> first | exact ⟨_, rfl⟩ | cases fl
      obtain ⟨n, hk⟩ := hk
      unfold opV
      rw [hk]
      simp only [opE]
      obtain ⟨u, h1, e1, e2⟩ := bind_some e
      show M.bind _ _ _ = _
      rw [bind_eq (insertV_upd e1)]
      exact e2

theorem noDefer_mem {l : List Oper} (h : noDefer l = true) {o : Oper} (ho : o ∈ l) : isDefer o.op = false := by
  have := List.all_eq_true.1 h o ho
  obtain ⟨dst, op, ty, pos, after, guard⟩ := o
  cases op <;> first | rfl | cases this

/-- A DRAWN REGION, IN ONE ORDER -/
theorem runD_sound (hs : SCall P G R) {ops : Array Oper} {start : Nat} {b : Frame} (hnd : noDefer ops.toList = true) : ∀ (l : List (Nat × Nat)) (f : Fm) (h : H) (f' : Fm) (h' : H) (ρ : Rn) (w : World) (tmps : Array Value) (ds : List Deferred),
    (∀ x ∈ l, ∃ o, ops[x.1]? = some o ∧ okFlag x.2 { b := 0, k := kd P o.op, dst := none, looks := [] } = true) → runD P R start ops.toList l f h = some (f', h') → HR P ρ h w → Ctx P G ρ h → FR ρ b f tmps ds →
    Out P ρ h w b f' h' fun tmps' ds' w' => ∀ b', Alike b b' → ∀ k cs, Calm b'.kind cs → Steps P (lone (frm b' tmps ds (.inRegion ops (l.map (·.1)) :: k)) cs w) (lone (frm b' tmps' ds' (.inRegion ops [] :: k)) cs w')
  | [], f, h, f', h', ρ, w, tmps, ds, _, e, hr, _, hf => by
    obtain ⟨rfl, rfl⟩ := pure_some e
    exact ⟨ρ, tmps, ds, w, Ext.refl _ _ _, hr, hf, fun b hal k cs _ => .refl _ _⟩
  | x :: l, f, h, f', h', ρ, w, tmps, ds, hl, e, hr, hc, hf => by
    obtain ⟨f1, h1, e1, e2⟩ := bind_some e
    obtain ⟨o, ho, hfl⟩ := hl x (List.mem_cons_self ..)
    have ho' : nth ops.toList x.1 = some o := by rw [nth_eq]; simpa using ho
    have hdo : isDefer o.op = false := noDefer_mem hnd (by have := Array.mem_of_getElem? ho; simpa using this)
    have one : Out P ρ h w b f1 h1 (OpTo P b ops x.1 tmps ds w) := by
      unfold oneD at e1
      rw [ho'] at e1
      simp only at e1
      generalize hw : wantedV f.tm ops.toList o.guard = q at e1
      match q, hw, e1 with
      | none, hw, e1 => cases e1
      | some false, hw, e1 => exact skipStep ho hr hf hw e1
      | some true, hw, e1 =>
        obtain ⟨v, h2, e3, e4⟩ := bind_some e1
        exact opStep hs ho hr hc hf hw hdo (opD_opV hfl e3) e4
    obtain ⟨ρ1, tmps1, ds1, w1, x1, r1, fr1, s1⟩ := one
    obtain ⟨ρ2, tmps2, ds2, w2, x2, r2, fr2, s2⟩ := runD_sound hs hnd l f1 h1 f' h' ρ1 w1 tmps1 ds1 (fun y hy => hl y (List.mem_cons_of_mem _ hy)) e2 r1 (hc.ext x1) fr1
    exact ⟨ρ2, tmps2, ds2, w2, x1.trans x2, r2, fr2, fun b hal k cs hcs => (s1 b hal _ k cs hcs).trans (s2 b hal k cs hcs)⟩

/-- operations, one by one -/
def SOps (P : Program) (G : Nat → Option (List V)) (R : Recs) : Prop := ∀ (ops : Array Oper) (i : Nat) (f : Fm) (h : H) (f' : Fm) (h' : H), R.ops ops (ops.toList.drop i) f h = some (f', h') → ∀ ρ w b tmps ds,
  HR P ρ h w → Ctx P G ρ h → FR ρ b f tmps ds → Out P ρ h w b f' h' fun tmps' ds' w' => ∀ b', Alike b b' → ∀ k cs, Calm b'.kind cs →
    Steps P (lone (frm b' tmps ds (.inRegion ops (List.range' i (ops.size - i)) :: k)) cs w) (lone (frm b' tmps' ds' k) cs w')
theorem opsF_sound (hs : SCall P G R) (ho : SOps P G R) {ops : Array Oper} {i : Nat} {f f' : Fm} {h' : H} {b : Frame} {tmps : Array Value} {ds : List Deferred} (e : opsF P R ops (ops.toList.drop i) f h = some (f', h'))
    (hr : HR P ρ h w) (hc : Ctx P G ρ h) (hf : FR ρ b f tmps ds) : Out P ρ h w b f' h' fun tmps' ds' w' => ∀ b', Alike b b' → ∀ k cs, Calm b'.kind cs →
    Steps P (lone (frm b' tmps ds (.inRegion ops (List.range' i (ops.size - i)) :: k)) cs w) (lone (frm b' tmps' ds' k) cs w') := by
  unfold opsF at e
  rcases Nat.lt_or_ge i ops.size with hi | hi
  · have hd : ops.toList.drop i = ops[i] :: ops.toList.drop (i + 1) := by
      rw [List.drop_eq_getElem_cons (by simpa using hi)]; simp
    rw [hd] at e
    obtain ⟨f1, h1, e1, e2⟩ := bind_some e
    obtain ⟨ρ1, tmps1, ds1, w1, x1, r1, fr1, s1⟩ := oneOp_sound hs (Array.getElem?_eq_getElem hi) hr hc hf e1
    obtain ⟨ρ2, tmps2, ds2, w2, x2, r2, fr2, s2⟩ := ho ops (i + 1) f1 h1 f' h' e2 ρ1 w1 b tmps1 ds1 r1 (hc.ext x1) fr1
    refine ⟨ρ2, tmps2, ds2, w2, x1.trans x2, r2, fr2, fun b hal k cs hcs => ?_⟩
    have : List.range' i (ops.size - i) = i :: List.range' (i + 1) (ops.size - (i + 1)) := by
      have : ops.size - i = (ops.size - (i + 1)) + 1 := by omega
      rw [this]; rfl
    rw [this]
    exact (s1 b hal _ k cs hcs).trans (s2 b hal k cs hcs)
  · have hd : ops.toList.drop i = [] := List.drop_eq_nil_of_le (by simpa using hi)
    rw [hd] at e
    obtain ⟨rfl, rfl⟩ := pure_some e
    refine ⟨ρ, tmps, ds, w, Ext.refl _ _ _, hr, hf, fun b hal k cs _ => ?_⟩
    have : ops.size - i = 0 := by omega
    rw [this]
    exact .one st_end

/-- what is drawn at a level -/
def SDraw (P : Program) (R : Recs) : Prop := ∀ (all : Array Oper) (start : Nat) (l : List (Nat × Nat)) (f : Fm), Le (R.draw all start l f) (runD P R start all.toList l f)
/-- A REGION -/
theorem regionF_sound (hm : P.follows .mixedOrders = true) (hR : GoodR R) (hs : SCall P G R) (ho : SOps P G R) (hD : SDraw P R) {id : Nat} {ops : Array Oper} {d : Bool} {f f' : Fm} {h' : H} {b : Frame} {tmps : Array Value} {ds : List Deferred}
    (e : regionF P R ops d f h = some (f', h')) (hr : HR P ρ h w) (hc : Ctx P G ρ h) (hf : FR ρ b f tmps ds) : Out P ρ h w b f' h' fun tmps' ds' w' => ∀ b', Alike b b' → ∀ k cs, Calm b'.kind cs →
    Steps P (lone (frm b' tmps ds (.code (.region id ops d) :: k)) cs w) (lone (frm b' tmps' ds' k) cs w') := by
  unfold regionF at e
  cases d with
  | false =>
    simp only at e
    obtain ⟨ρ2, tmps2, ds2, w2, x2, r2, fr2, s2⟩ := ho ops 0 f h f' h' e ρ w b tmps ds hr hc hf
    refine ⟨ρ2, tmps2, ds2, w2, x2, r2, fr2, fun b hal k cs hcs => .head st_region ?_⟩
    have := s2 b hal k cs hcs
    rw [Nat.sub_zero, ← List.range_eq_range'] at this
    exact this
  | true =>
    simp only at e
    generalize hpl : planOf P ops = opl at e
    generalize hnd : noDefer ops.toList = nd at e
    match opl, nd, hpl, hnd, e with
    | some pl, true, hpl, hnd, e =>
      simp only at e
      obtain ⟨start, h1, e1, e2⟩ := bind_some e
      have hst : start = h.next ∧ h1 = .mk (h.next + ops.size) h.gs h.wr h.bs h.cl := by
        obtain ⟨n, gs, wr, bs, cl⟩ := h
        simp only [reserve] at e1
        injection e1 with e1; injection e1 with a1 a2
        have hl : llen ops.toList = ops.size := by rw [llen_eq]; simp
        rw [hl] at a2
        exact ⟨a1.symm, a2.symm⟩
      obtain ⟨rfl, rfl⟩ := hst
      -- the world behind the draw
      let w0 : World := { w with drawn := w.drawn + 1 }
      obtain ⟨hp, hk⟩ := schedule_keeps hm (planOf_some hpl).1 (w.tape w.drawn (.order b.fn id))
      obtain ⟨ord', o1, o2, o3⟩ := plan_any hR hpl hp hk
      have run : ∀ gs wr h2, gs ≤ h.next → (needs pl = true → gs = h.next) → R.draw ops h.next pl f (.mk (h.next + ops.size) gs wr h.bs h.cl) = some (f', h2) →
          Kept (.mk (h.next + ops.size) gs wr h.bs h.cl) h2 ∧ Out P ρ h w b f' h2 fun tmps' ds' w' => ∀ b', Alike b b' → ∀ k cs, Calm b'.kind cs → Steps P (lone (frm b' tmps ds (.code (.region id ops true) :: k)) cs w) (lone (frm b' tmps' ds' k) cs w') := by
        intro gs wr h2 hgs hnd2 e3
        obtain ⟨x1, r1⟩ := hr.same (h' := .mk (h.next + ops.size) gs wr h.bs h.cl) (w' := w0) (Nat.le_add_right _ _) (Nat.le_trans hgs (Nat.le_add_right _ _)) rfl rfl rfl rfl rfl rfl
        refine ⟨(hR.draw _ _ _ _).ok _ _ _ e3 (Nat.le_trans hgs (Nat.le_add_right _ _)), ?_⟩
        have e4 := hD _ _ _ _ _ _ e3
        have e5 := o3 h.next f (.mk (h.next + ops.size) gs wr h.bs h.cl) _ hgs (Nat.le_trans hgs (Nat.le_add_right _ _)) hnd2 (Nat.le_refl _) e4
        obtain ⟨ρ2, tmps2, ds2, w2, x2, r2, fr2, s2⟩ := runD_sound hs hnd ord' f _ f' h2 ρ w0 tmps ds o2 e5 r1 (hc.ext x1) hf
        refine ⟨ρ2, tmps2, ds2, w2, x1.trans x2, r2, fr2, fun b hal k cs hcs => .head st_draw ?_⟩
        have := (s2 b hal k cs hcs).trans (.one st_end)
        rw [o1] at this
        rw [hal.1]
        exact this
      generalize hnp : needs pl = np at e2
      cases np with
      | false => exact (run h.gs h.wr h' hr.gs (fun q => by rw [hnp] at q; cases q) e2).2
      | true =>
        simp only at e2
        obtain ⟨h2, e3, rfl⟩ := guard_some e2
        obtain ⟨hk2, ρ2, tmps2, ds2, w2, x2, r2, fr2, s2⟩ := run h.next 0 h2 (Nat.le_refl _) (fun _ => rfl) e3
        have hn2 : h.next + ops.size ≤ h2.next := hk2.next
        obtain ⟨x3, r3⟩ := r2.same (h' := .mk h2.next h.gs (Nat.lor h.wr (lowBits h.gs h2.wr)) h2.bs h2.cl) (w' := w2) (Nat.le_refl _) (Nat.le_trans hr.gs (Nat.le_trans (Nat.le_add_right _ _) hn2)) rfl rfl rfl rfl rfl rfl
        exact ⟨ρ2, tmps2, ds2, w2, x2.trans x3, r3, fr2, s2⟩
end Go.Ev
