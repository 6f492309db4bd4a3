/- THE EVALUATOR, part 1: a run of it, asked of the kernel, shows what the program comes to. Nothing of a program stands here. -/
import Derived.Calls
import Derived.Laws.Sem
set_option linter.unusedSimpArgs false
set_option linter.unusedVariables false
/- The abstract evaluator: values, heaps, and the small operations on them. Nothing of a program stands here. -/
namespace Go.Ev
open Go

/-- a slice's capacity: known; or up to the end of its block, less so many -/
inductive Cap where
  | ex (c : Nat)
  | en (d : Nat)

inductive V where
  | bool (b : Bool)
  | int (k : IntKind) (n : Int)
  | str (s : List Nat) (n : Nat)
  | ptr (b o : Nat)
  | nilp
  | sl (b o len : Nat) (cap : Cap)
  | nils
  | sl0                                -- a slice without elements, not nil, of which nothing else is known
  | map (r : Nat)
  | nilm
  | fn (f : Fn) (first captured : List V)
  | yield (l : Nat)
  | nilf
  | iface (t : Nat) (v : V)
  | nili
  | agg (l : List V)
  | tup (l : List V)
  | rng (k : IntKind) (lo hi : Int)     -- some number of a range
  | bad

inductive T (α : Type) where
  | e
  | n (l : T α) (v : Option α) (r : T α)

namespace T
noncomputable def get {α : Type} (t : T α) : Nat → Option α :=
  T.rec (motive := fun _ => Nat → Option α) (fun _ => none)
    (fun _ v _ gl gr k => Nat.rec (motive := fun _ => Option α) v (fun k _ => Bool.rec (motive := fun _ => Option α) (gr (k / 2)) (gl (k / 2)) (Nat.beq (k % 2) 0)) k) t
noncomputable def one {α : Type} (a : α) (f : Nat) : Nat → T α :=
  Nat.rec (motive := fun _ => Nat → T α) (fun _ => .e)
    (fun _ g k => Nat.rec (motive := fun _ => T α) (.n .e (some a) .e) (fun k _ => Bool.rec (motive := fun _ => T α) (.n .e none (g (k / 2))) (.n (g (k / 2)) none .e) (Nat.beq (k % 2) 0)) k) f
noncomputable def set {α : Type} (t : T α) (k : Nat) (a : α) : T α :=
  T.rec (motive := fun _ => Nat → T α) (fun k => one a (k + 1) k)
    (fun l v r gl gr k => Nat.rec (motive := fun _ => T α) (.n l (some a) r) (fun k _ => Bool.rec (motive := fun _ => T α) (.n l v (gr (k / 2))) (.n (gl (k / 2)) v r) (Nat.beq (k % 2) 0)) k) t k

theorem get_e {α : Type} (k : Nat) : (T.e : T α).get k = none := rfl
theorem get_n0 {α : Type} (l r : T α) (v : Option α) : (T.n l v r).get 0 = v := rfl
theorem get_ns {α : Type} (l r : T α) (v : Option α) (k : Nat) : (T.n l v r).get (k + 1) = if k % 2 = 0 then l.get (k / 2) else r.get (k / 2) := by
  show Bool.rec (motive := fun _ => Option α) (r.get (k / 2)) (l.get (k / 2)) (Nat.beq (k % 2) 0) = _
  by_cases h : k % 2 = 0
  · rw [if_pos h, h]; rfl
  · rw [if_neg h]
    have : Nat.beq (k % 2) 0 = false := by
      cases hb : Nat.beq (k % 2) 0 with
      | false => rfl
      | true => exact absurd (Nat.eq_of_beq_eq_true hb) h
    rw [this]
theorem one_s {α : Type} (a : α) (f k : Nat) : one a (f + 1) (k + 1) = if k % 2 = 0 then .n (one a f (k / 2)) none .e else .n .e none (one a f (k / 2)) := by
  show Bool.rec (motive := fun _ => T α) (.n .e none (one a f (k / 2))) (.n (one a f (k / 2)) none .e) (Nat.beq (k % 2) 0) = _
  by_cases h : k % 2 = 0
  · rw [if_pos h, h]; rfl
  · rw [if_neg h]
    have : Nat.beq (k % 2) 0 = false := by
      cases hb : Nat.beq (k % 2) 0 with
      | false => rfl
      | true => exact absurd (Nat.eq_of_beq_eq_true hb) h
    rw [this]
theorem one_0 {α : Type} (a : α) (f : Nat) : one a (f + 1) 0 = .n .e (some a) .e := rfl
theorem set_e {α : Type} (k : Nat) (a : α) : (T.e : T α).set k a = one a (k + 1) k := rfl
theorem set_n0 {α : Type} (l r : T α) (v : Option α) (a : α) : (T.n l v r).set 0 a = .n l (some a) r := rfl
theorem set_ns {α : Type} (l r : T α) (v : Option α) (k : Nat) (a : α) : (T.n l v r).set (k + 1) a = if k % 2 = 0 then .n (l.set (k / 2) a) v r else .n l v (r.set (k / 2) a) := by
  show Bool.rec (motive := fun _ => T α) (.n l v (r.set (k / 2) a)) (.n (l.set (k / 2) a) v r) (Nat.beq (k % 2) 0) = _
  by_cases h : k % 2 = 0
  · rw [if_pos h, h]; rfl
  · rw [if_neg h]
    have : Nat.beq (k % 2) 0 = false := by
      cases hb : Nat.beq (k % 2) 0 with
      | false => rfl
      | true => exact absurd (Nat.eq_of_beq_eq_true hb) h
    rw [this]

theorem get_one {α : Type} (a : α) : ∀ (f k j : Nat), k < f → (one a f k).get j = if j = k then some a else none := by
  intro f
  induction f with
  | zero => intro k j h; omega
  | succ f ih =>
    intro k j h
    cases k with
    | zero =>
      rw [one_0]
      cases j with
      | zero => rfl
      | succ j => rw [get_ns, get_e, ite_self, if_neg (by omega)]
    | succ k =>
      rw [one_s]
      by_cases hk : k % 2 = 0
      · rw [if_pos hk]
        cases j with
        | zero => rw [get_n0, if_neg (by omega)]
        | succ j =>
          rw [get_ns, ih _ _ (by omega), get_e]
          by_cases hj : j % 2 = 0
          · rw [if_pos hj]
            by_cases e : j / 2 = k / 2
            · rw [if_pos e, if_pos (by omega)]
            · rw [if_neg e, if_neg (by omega)]
          · rw [if_neg hj, if_neg (by omega)]
      · rw [if_neg hk]
        cases j with
        | zero => rw [get_n0, if_neg (by omega)]
        | succ j =>
          rw [get_ns, ih _ _ (by omega), get_e]
          by_cases hj : j % 2 = 0
          · rw [if_pos hj, if_neg (by omega)]
          · rw [if_neg hj]
            by_cases e : j / 2 = k / 2
            · rw [if_pos e, if_pos (by omega)]
            · rw [if_neg e, if_neg (by omega)]

theorem get_set {α : Type} (t : T α) : ∀ (k j : Nat) (a : α), (t.set k a).get j = if j = k then some a else t.get j := by
  induction t with
  | e => intro k j a; rw [set_e, get_one _ _ _ _ (by omega), get_e]
  | n l v r il ir =>
    intro k j a
    cases k with
    | zero =>
      rw [set_n0]
      cases j with
      | zero => rfl
      | succ j => rw [get_ns, get_ns, if_neg (show ¬ j + 1 = 0 by omega)]
    | succ k =>
      rw [set_ns]
      by_cases hk : k % 2 = 0
      · rw [if_pos hk]
        cases j with
        | zero => rw [get_n0, get_n0, if_neg (by omega)]
        | succ j =>
          rw [get_ns, get_ns, il]
          by_cases hj : j % 2 = 0
          · rw [if_pos hj, if_pos hj]
            by_cases e : j / 2 = k / 2
            · rw [if_pos e, if_pos (by omega)]
            · rw [if_neg e, if_neg (by omega)]
          · rw [if_neg hj, if_neg hj, if_neg (by omega)]
      · rw [if_neg hk]
        cases j with
        | zero => rw [get_n0, get_n0, if_neg (by omega)]
        | succ j =>
          rw [get_ns, get_ns, ir]
          by_cases hj : j % 2 = 0
          · rw [if_pos hj, if_pos hj, if_neg (by omega)]
          · rw [if_neg hj, if_neg hj]
            by_cases e : j / 2 = k / 2
            · rw [if_pos e, if_pos (by omega)]
            · rw [if_neg e, if_neg (by omega)]
theorem get_set_same {α : Type} (t : T α) (k : Nat) (a : α) : (t.set k a).get k = some a := by rw [get_set, if_pos rfl]
theorem get_set_ne {α : Type} (t : T α) {k j : Nat} (a : α) (h : j ≠ k) : (t.set k a).get j = t.get j := by rw [get_set, if_neg h]

theorem set_one_comm {α : Type} : ∀ (f g k j : Nat) (a b : α), k < f → j < g → k ≠ j → (one a f k).set j b = (one b g j).set k a := by
  intro f
  induction f with
  | zero => intro g k j a b h; omega
  | succ f ih =>
    intro g k j a b hk hj hne
    cases g with
    | zero => omega
    | succ g =>
    cases k with
    | zero =>
      cases j with
      | zero => omega
      | succ j =>
        rw [one_0, set_ns, one_s, set_e]
        have e : ∀ (m : Nat), m < g → one b (m + 1) m = one b g m := by
          intro m hm
          clear ih hk hj hne
          induction g generalizing m with
          | zero => omega
          | succ g ihg =>
            cases m with
            | zero => rfl
            | succ m =>
              rw [one_s, one_s]
              have h1 : one b (m + 1) (m / 2) = one b g (m / 2) := by
                rw [← ihg (m / 2) (by omega)]
                clear ihg hm
                have : ∀ (u v x : Nat), x < u → x < v → one b u x = one b v x := by
                  intro u
                  induction u with
                  | zero => intro v x h; omega
                  | succ u ihu =>
                    intro v x h1 h2
                    cases v with
                    | zero => omega
                    | succ v =>
                      cases x with
                      | zero => rfl
                      | succ x => rw [one_s, one_s, ihu v (x / 2) (by omega) (by omega)]
                exact this _ _ _ (by omega) (by omega)
              rw [h1]
        by_cases hj2 : j % 2 = 0
        · rw [if_pos hj2, if_pos hj2, set_n0, e _ (by omega)]
        · rw [if_neg hj2, if_neg hj2, set_n0, e _ (by omega)]
    | succ k =>
      have e : ∀ (u v x : Nat) (c : α), x < u → x < v → one c u x = one c v x := by
        intro u
        induction u with
        | zero => intro v x c h; omega
        | succ u ihu =>
          intro v x c h1 h2
          cases v with
          | zero => omega
          | succ v =>
            cases x with
            | zero => rfl
            | succ x => rw [one_s, one_s, ihu v (x / 2) c (by omega) (by omega)]
      cases j with
      | zero =>
        rw [one_s, one_0, set_ns]
        by_cases hk2 : k % 2 = 0
        · rw [if_pos hk2, if_pos hk2, set_n0, set_e, e _ _ _ _ (by omega : k / 2 < k / 2 + 1) (by omega : k / 2 < f)]
        · rw [if_neg hk2, if_neg hk2, set_n0, set_e, e _ _ _ _ (by omega : k / 2 < k / 2 + 1) (by omega : k / 2 < f)]
      | succ j =>
        rw [one_s, one_s]
        by_cases hk2 : k % 2 = 0
        · by_cases hj2 : j % 2 = 0
          · rw [if_pos hk2, if_pos hj2, set_ns, set_ns, if_pos hk2, if_pos hj2, ih g (k / 2) (j / 2) a b (by omega) (by omega) (by omega)]
          · rw [if_pos hk2, if_neg hj2, set_ns, set_ns, if_pos hk2, if_neg hj2, set_e, set_e, e _ _ _ _ (by omega : k / 2 < k / 2 + 1) (by omega : k / 2 < f), e _ _ _ _ (by omega : j / 2 < j / 2 + 1) (by omega : j / 2 < g)]
        · by_cases hj2 : j % 2 = 0
          · rw [if_neg hk2, if_pos hj2, set_ns, set_ns, if_neg hk2, if_pos hj2, set_e, set_e, e _ _ _ _ (by omega : k / 2 < k / 2 + 1) (by omega : k / 2 < f), e _ _ _ _ (by omega : j / 2 < j / 2 + 1) (by omega : j / 2 < g)]
          · rw [if_neg hk2, if_neg hj2, set_ns, set_ns, if_neg hk2, if_neg hj2, ih g (k / 2) (j / 2) a b (by omega) (by omega) (by omega)]

theorem set_comm {α : Type} (t : T α) : ∀ (k j : Nat) (a b : α), k ≠ j → (t.set k a).set j b = (t.set j b).set k a := by
  induction t with
  | e => intro k j a b h; rw [set_e, set_e, set_one_comm (k + 1) (j + 1) k j a b (by omega) (by omega) h]
  | n l v r il ir =>
    intro k j a b h
    cases k with
    | zero =>
      cases j with
      | zero => omega
      | succ j =>
        rw [set_n0, set_ns, set_ns]
        by_cases hj2 : j % 2 = 0
        · rw [if_pos hj2, if_pos hj2, set_n0]
        · rw [if_neg hj2, if_neg hj2, set_n0]
    | succ k =>
      cases j with
      | zero =>
        rw [set_n0, set_ns, set_ns]
        by_cases hk2 : k % 2 = 0
        · rw [if_pos hk2, if_pos hk2, set_n0]
        · rw [if_neg hk2, if_neg hk2, set_n0]
      | succ j =>
        rw [set_ns, set_ns]
        by_cases hk2 : k % 2 = 0
        · by_cases hj2 : j % 2 = 0
          · rw [if_pos hk2, if_pos hj2, set_ns, set_ns, if_pos hk2, if_pos hj2, il _ _ _ _ (by omega)]
          · rw [if_pos hk2, if_neg hj2, set_ns, set_ns, if_pos hk2, if_neg hj2]
        · by_cases hj2 : j % 2 = 0
          · rw [if_neg hk2, if_pos hj2, set_ns, set_ns, if_neg hk2, if_pos hj2]
          · rw [if_neg hk2, if_neg hj2, set_ns, set_ns, if_neg hk2, if_neg hj2, ir _ _ _ _ (by omega)]
end T
end Go.Ev
/- The abstract evaluator: its heap, its operations, its statements. -/
namespace Go.Ev
open Go

structure LoopB where
  state : Nat           -- 0 ready, 1 busy, 2 done, 3 exhausted
  pending : Option Code
  tm : T V
  n : Nat
  fn : Nat
  params : List Nat
  assign : Code
  body : Code
  dfr : Nat

inductive B where
  | cells (c : List V) (e : Nat) (k : Nat)      -- k = 0: the whole of a block; k + 1: the beginning of one, of the class k + 1
  | ro (c : List V)                              -- what nobody writes; none: nothing is known of it
  | hid                                          -- what nothing is known of
  | map (es : List (V × V × Nat)) (clock : Nat)
  | smap (k : IntKind) (es : List (Nat × V))    -- a map by numbers whose order is not known: sorted by its keys
  | iter (s : List Nat) (pos : Nat)
  | mit (m since : Nat)                          -- an iterator over a map, at its start; of which clock
  | loop (l : LoopB)
  | dfr (taken : Bool)

/-- of a class of blocks that may share memory: the two that are live; whether it is frozen -/
inductive Cl where
  | mk (a l : Nat) (fz : Bool)

inductive H where
  | mk (next gs wr : Nat) (bs : T B) (cl : T Cl)      -- which blocks below gs are written is noted

abbrev M (α : Type) := H → Option (α × H)
def M.pure {α : Type} (a : α) : M α := fun h => some (a, h)
def M.bind {α β : Type} (m : M α) (f : α → M β) : M β := fun h => match m h with
  | some x => match x with
    | (a, h') => f a h'
  | none => none
def M.fail {α : Type} : M α := fun _ => none
def M.lift {α : Type} (o : Option α) : M α := match o with
  | some a => M.pure a
  | none => M.fail

noncomputable section
def nmin (a b : Nat) : Nat := match Nat.ble a b with
  | true => a
  | false => b
def note (gs id wr : Nat) : Nat := match Nat.blt id gs with
  | true => Nat.lor wr (Nat.shiftLeft 1 id)
  | false => wr

def getB (id : Nat) : M B := fun h => match h with
  | .mk n gs wr bs cl => match bs.get id with
    | some b => some (b, .mk n gs wr bs cl)
    | none => none
def updB (id : Nat) (f : B → Option B) : M Unit := fun h => match h with
  | .mk n gs wr bs cl => match bs.get id with
    | some b => match f b with
      | some b' => some ((), .mk n gs (note gs id wr) (bs.set id b') cl)
      | none => none
    | none => none
def newB (b : B) : M Nat := fun h => match h with
  | .mk n gs wr bs cl => some (n, .mk (n + 1) gs (note gs n wr) (bs.set n b) cl)
/-- a block that append made: where it ends is not known -/
def newG (c : List V) (e : Nat) : M Nat := fun h => match h with
  | .mk n gs wr bs cl => some (n, .mk (n + 1) gs (note gs n wr) (bs.set n (.cells c e (n + 1))) (cl.set (n + 1) (.mk n n false)))
def fillB (id : Nat) (b : B) : M Unit := fun h => match h with
  | .mk n gs wr bs cl => match Nat.blt id n with
    | true => match bs.get id with
      | some _ => none
      | none => some ((), .mk n gs (note gs id wr) (bs.set id b) cl)
    | false => none
def reserve (m : Nat) : M Nat := fun h => match h with
  | .mk n gs wr bs cl => some (n, .mk (n + m) gs wr bs cl)
def getC (k : Nat) : M Cl := fun h => match h with
  | .mk n gs wr bs cl => match cl.get k with
    | some c => some (c, .mk n gs wr bs cl)
    | none => none
def setC (k : Nat) (c : Cl) : M Unit := fun h => match h with
  | .mk n gs wr bs cl => some ((), .mk n gs (note gs (k - 1) wr) bs (cl.set k c))
def lowBits (gs x : Nat) : Nat := Nat.land x (Nat.shiftLeft 1 gs - 1)
/-- which old blocks are written is noted; behind it, for whoever noted ahead -/
def guard {α : Type} (start : Nat) (m : M α) : M α := fun h => match h with
  | .mk n gs wr bs cl => match m (.mk n start 0 bs cl) with
    | some x => match x with
      | (a, h') => match h' with
        | .mk n' _ wr' bs' cl' => some (a, .mk n' gs (Nat.lor wr (lowBits gs wr')) bs' cl')
    | none => none
def mem (x : Nat) (l : List Nat) : Bool := List.rec (motive := fun _ => Bool) false (fun a _ g => match Nat.beq a x with
  | true => true
  | false => g) l
/-- a block that is whole, and was not written since that is noted -/
def getOld (start id : Nat) : M B := fun h => match h with
  | .mk n gs wr bs cl => match Nat.blt id start with
    | true => match Nat.testBit wr id with
      | false => match bs.get id with
        | some (.cells c e 0) => some (.cells c e 0, .mk n gs wr bs cl)
        | some (.ro c) => some (.ro c, .mk n gs wr bs cl)
        | some (.map es k) => some (.map es k, .mk n gs wr bs cl)
        | some (.smap k es) => some (.smap k es, .mk n gs wr bs cl)
        | _ => none
      | true => none
    | false => none
def newAt (al : Option Nat) (b : B) : M Nat := match al with
  | none => newB b
  | some id => M.bind (fillB id b) fun _ => M.pure id

/-- one more block of a class -/
def newC (c : List V) (e k : Nat) : M Nat := newB (.cells c e k)

def live (id : Nat) (c : Cl) : Bool := match c with
  | .mk a l _ => match Nat.beq id a with
    | true => true
    | false => Nat.beq id l

/-- the cells of a block, if they are known -/
def cellsOf (id : Nat) : M (List V × Nat × Nat) := M.bind (getB id) fun b => match b with
  | .cells c e k => match k with
    | 0 => M.pure (c, e, 0)
    | k + 1 => M.bind (getC (k + 1)) fun s => match live id s with
      | true => M.pure (c, e, k + 1)
      | false => M.fail
  | .ro c => match c with
    | [] => M.fail
    | v :: c => M.pure (v :: c, 0, 0)
  | _ => M.fail
/-- a block, if it is known -/
def getL (id : Nat) : M B := M.bind (getB id) fun b => match b with
  | .cells c e k => match k with
    | 0 => M.pure (.cells c e 0)
    | k + 1 => M.bind (getC (k + 1)) fun s => match live id s with
      | true => M.pure (.cells c e (k + 1))
      | false => M.fail
  | b => M.pure b
/-- before a store: the block alone is live in its class from now on -/
def own (id k : Nat) : M Unit := match k with
  | 0 => M.pure ()
  | k + 1 => M.bind (getC (k + 1)) fun s => match s with
    | .mk _ _ true => M.fail
    | .mk _ _ false => setC (k + 1) (.mk id id false)
def putCells (id : Nat) (c : List V) : M Unit := updB id fun b => match b with
  | .cells _ e k => some (.cells c e k)
  | _ => none

def nth {α : Type} (l : List α) : Nat → Option α :=
  List.rec (motive := fun _ => Nat → Option α) (fun _ => none)
    (fun a _ g n => Nat.rec (motive := fun _ => Option α) (some a) (fun n _ => g n) n) l
def llen {α : Type} (l : List α) : Nat := List.rec (motive := fun _ => Nat → Nat) (fun n => n) (fun _ _ g n => g (n + 1)) l 0
def lset {α : Type} (l : List α) (n : Nat) (x : α) : List α :=
  List.rec (motive := fun _ => Nat → List α) (fun _ => [])
    (fun a l g n => Nat.rec (motive := fun _ => List α) (x :: l) (fun n _ => a :: g n) n) l n
def ldrop {α : Type} (n : Nat) (l : List α) : List α :=
  List.rec (motive := fun _ => Nat → List α) (fun _ => []) (fun a l g n => Nat.rec (motive := fun _ => List α) (a :: l) (fun n _ => g n) n) l n
def ltake {α : Type} (n : Nat) (l : List α) : List α :=
  List.rec (motive := fun _ => Nat → List α) (fun _ => []) (fun a _ g n => Nat.rec (motive := fun _ => List α) [] (fun n _ => a :: g n) n) l n
def lapp {α : Type} (l m : List α) : List α := List.rec (motive := fun _ => List α) m (fun a _ g => a :: g) l
def lmap {α β : Type} (f : α → β) (l : List α) : List β := List.rec (motive := fun _ => List β) [] (fun a _ g => f a :: g) l
/-- exactly n from o -/
def sub {α : Type} (l : List α) (o n : Nat) : Option (List α) :=
  match Nat.ble (o + n) (llen l) with
  | true => some (ltake n (ldrop o l))
  | false => none
/-- xs laid over l from o on -/
def over {α : Type} (l : List α) (o : Nat) (xs : List α) : Option (List α) :=
  match Nat.ble (o + llen xs) (llen l) with
  | true => some (lapp (ltake o l) (lapp xs (ldrop (o + llen xs) l)))
  | false => none
def rep {α : Type} (n : Nat) (l : List α) : List α := Nat.rec (motive := fun _ => List α) [] (fun _ g => lapp l g) n

/-- may it lie in one cell? -/
def V.one (v : V) : Bool := match v with
  | .agg _ => false
  | .tup _ => false
  | .bad => false
  | _ => true
def allOne (l : List V) : Bool := List.rec (motive := fun _ => Bool) true (fun v _ g => match V.one v with | true => g | false => false) l
def V.cells (v : V) : Option (List V) := match v with
  | .agg l => some l
  | .tup _ => none
  | .bad => none
  | v => some [v]

def ofBytes (s : ByteArray) : List Nat := s.data.toList.map (·.toNat)
def ofS (v : Value) : Option V := match v with
  | .bool b => some (.bool b)
  | .int k n => some (.int k n)
  | .string s => some (.str (ofBytes s) (llen s.data.toList))
  | .pointer none => some .nilp
  | .slice none l c => match l, c with
    | 0, 0 => some .nils
    | _, _ => none
  | .map none => some .nilm
  | .nilFunc => some .nilf
  | .nilIface => some .nili
  | _ => none
def ofSs (l : List Value) : Option (List V) := List.rec (motive := fun _ => Option (List V)) (some []) (fun v _ g => match ofS v with
  | some v => match g with
    | some l => some (v :: l)
    | none => none
  | none => none) l
def ofV (v : Value) : Option V := match v with
  | .agg cs => match ofSs cs.toList with
    | some l => some (.agg l)
    | none => none
  | v => ofS v

inductive Df where
  | mark (id : Nat)
  | call (f : V)
structure Fm where
  tm : T V
  n : Nat
  fn : Nat
  defers : List Df
  rd : Option Nat

section
variable (P : Program)

def tmpV (tm : T V) (t : Nat) : V := match tm.get t with
  | some v => v
  | none => .tup []
def opd (tm : T V) (x : Operand) : V := match x with
  | .tmp t => tmpV tm t
  | .const v => match ofV v with
    | some v => v
    | none => .bad
  | .global g => match Nat.blt g P.globals.size with
    | true => .ptr g 0
    | false => .bad
  | .func f => .fn (.func f) [] []

def szOf (t : Nat) : Option Nat := match P.info? t with
  | some i => some i.size
  | none => none
def isAggT (t : Nat) : Option Bool := match P.underlying t with
  | some (.struct _) => some true
  | some (.array _ _) => some true
  | some _ => some false
  | none => none
def zeroOf (t : Nat) : Option V := match P.info? t with
  | some i => match i.zero with
    | some v => ofV v
    | none => none
  | none => none
def zcells (t : Nat) : Option (List V) := match zeroOf P t with
  | some z => z.cells
  | none => none
def elemOf (t : Nat) : Option Nat := match P.underlying t with
  | some (.slice e) => some e
  | _ => none
def kindOf (t : Nat) : Option IntKind := match P.underlying t with
  | some (.int k) => some k
  | _ => none
def fieldOf (t f : Nat) : Option (Nat × Nat) := match P.underlying t with
  | some (.struct fs) => match nth fs.toList f with
    | some x => some (x.offset, x.type)
    | none => none
  | _ => none

def partV (t : Nat) (l : List V) (o : Nat) : Option V := match isAggT P t with
  | some true => match szOf P t with
    | some n => match sub l o n with
      | some l => some (.agg l)
      | none => none
    | none => none
  | some false => nth l o
  | none => none

def cellsB (b : B) : Option (List V) := match b with
  | .cells c _ _ => some c
  | .ro c => match c with
    | [] => none
    | v :: c => some (v :: c)
  | _ => none
def loadB (t o : Nat) (b : B) : Option V := match cellsB b with
  | some c => partV P t c o
  | none => none
def loadV (t b o : Nat) : M V := M.bind (getL b) fun x => M.lift (loadB P t o x)

def storeV (t b o : Nat) (v : V) : M Unit := match v.cells with
  | none => M.fail
  | some l => match szOf P t with
    | none => M.fail
    | some n => match Nat.beq (llen l) n with
      | false => M.fail
      | true => M.bind (cellsOf b) fun x => match x with
        | (c, _, k) => M.bind (own b k) fun _ => match over c o l with
          | some c => putCells b c
          | none => M.fail

def ile (a b : Int) : Bool := match a, b with
  | .ofNat a, .ofNat b => Nat.ble a b
  | .ofNat _, .negSucc _ => false
  | .negSucc _, .ofNat _ => true
  | .negSucc a, .negSucc b => Nat.ble b a
def ieq (a b : Int) : Bool := match a, b with
  | .ofNat a, .ofNat b => Nat.beq a b
  | .ofNat _, .negSucc _ => false
  | .negSucc _, .ofNat _ => false
  | .negSucc a, .negSucc b => Nat.beq a b
def bnot (b : Bool) : Bool := match b with
  | true => false
  | false => true
def beq (a b : Bool) : Bool := match a with
  | true => b
  | false => bnot b
def leq (a b : List Nat) : Bool := List.rec (motive := fun _ => List Nat → Bool)
  (fun m => match m with | [] => true | _ :: _ => false)
  (fun x _ g m => match m with | [] => false | y :: m => match Nat.beq x y with | true => g m | false => false) a b
def llt (a b : List Nat) : Bool := List.rec (motive := fun _ => List Nat → Bool)
  (fun m => match m with | [] => false | _ :: _ => true)
  (fun x _ g m => match m with | [] => false | y :: m => match Nat.beq x y with | true => g m | false => Nat.ble x y) a b

/-- a number of a kind, modulo its range: not below 0 -/
def toU (k : IntKind) (n : Int) : Nat := (n % (2 ^ k.bits : Int)).toNat
def sameK (j k : IntKind) : Bool := match j, k with
  | .i8, .i8 => true | .i16, .i16 => true | .i32, .i32 => true | .i64, .i64 => true
  | .u8, .u8 => true | .u16, .u16 => true | .u32, .u32 => true | .u64, .u64 => true
  | _, _ => false

def intBin (op : BinOp) (k : IntKind) (a b : Int) : Option V := match op with
  | .add => some (.int k (k.wrap (a + b)))
  | .sub => some (.int k (k.wrap (a - b)))
  | .mul => some (.int k (k.wrap (a * b)))
  | .quo => match ieq b 0 with
    | true => none
    | false => some (.int k (k.wrap (a.tdiv b)))
  | .rem => match ieq b 0 with
    | true => none
    | false => some (.int k (a.tmod b))
  | .and => some (.int k (k.wrap (Int.ofNat (Nat.land (toU k a) (toU k b)))))
  | .or => some (.int k (k.wrap (Int.ofNat (Nat.lor (toU k a) (toU k b)))))
  | .xor => some (.int k (k.wrap (Int.ofNat (Nat.xor (toU k a) (toU k b)))))
  | .eql => some (.bool (ieq a b))
  | .neq => some (.bool (bnot (ieq a b)))
  | .lss => some (.bool (bnot (ile b a)))
  | .leq => some (.bool (ile a b))
  | .gtr => some (.bool (bnot (ile a b)))
  | .geq => some (.bool (ile b a))
  | _ => none
def shiftV (op : BinOp) (k : IntKind) (a b : Int) : Option V := match ile 0 b with
  | false => none
  | true => match op with
    | .shl => some (.int k (k.wrap (a * ((2 ^ nmin b.toNat k.bits : Nat) : Int))))
    | .shr => some (.int k (a.fdiv ((2 ^ nmin b.toNat k.bits : Nat) : Int)))
    | _ => none

/-- == of numbers, bools, texts -/
def eqS (x y : V) : Option Bool := match x, y with
  | .bool a, .bool b => some (beq a b)
  | .int k a, .int j b => match sameK k j with
    | true => some (ieq a b)
    | false => none
  | .str a _, .str b _ => some (leq a b)
  | _, _ => none
/-- == of structs, field by field -/
def eqFs (g : Nat → V → V → Option Bool) (xs ys : List V) (fs : List Field) : Option Bool := List.rec (motive := fun _ => Option Bool) (some true)
  (fun f _ r => match f.name == "_" with
    | true => none
    | false => match partV P f.type xs f.offset, partV P f.type ys f.offset with
      | some a, some b => match g f.type a b with
        | some true => r
        | some false => some false
        | none => none
      | _, _ => none) fs
/-- == of plain values: numbers, bools, texts, structs of such -/
def eqT (d : Nat) : Nat → V → V → Option Bool := Nat.rec (motive := fun _ => Nat → V → V → Option Bool) (fun _ _ _ => none)
  (fun _ g t x y => match P.underlying t with
    | some .bool => match x with
      | .bool _ => eqS x y
      | _ => none
    | some (.int _) => match x with
      | .int _ _ => eqS x y
      | _ => none
    | some .string => match x with
      | .str _ _ => eqS x y
      | _ => none
    | some (.struct fs) => match P.stoodInHeld t with
      | true => none
      | false => match x, y with
        | .agg xs, .agg ys => eqFs P g xs ys fs.toList
        | _, _ => none
    | _ => none) d
def descEq (t : Nat) (x y : V) : Option Bool := match P.underlying t with
  | some .bool => match x, y with
    | .bool a, .bool b => some (beq a b)
    | _, _ => none
  | some (.pointer e) => match x, y with
    | .ptr a o, .ptr b q => match szOf P e with
      | some (_ + 1) => match Nat.beq a b with
        | true => some (Nat.beq o q)
        | false => none
      | _ => none
    | .nilp, .nilp => some true
    | .nilp, .ptr _ _ => some false
    | .ptr _ _, .nilp => some false
    | _, _ => none
  | some (.slice _) => match x, y with
    | .nils, .nils => some true
    | .sl _ _ _ _, .nils => some false
    | .nils, .sl _ _ _ _ => some false
    | _, _ => none
  | some (.map _ _) => match x, y with
    | .nilm, .nilm => some true
    | .map _, .nilm => some false
    | .nilm, .map _ => some false
    | _, _ => none
  | some (.func _ _ _) => match x, y with
    | .nilf, .nilf => some true
    | .fn _ _ _, .nilf => some false
    | .nilf, .fn _ _ _ => some false
    | .yield _, .nilf => some false
    | .nilf, .yield _ => some false
    | _, _ => none
  | some (.interface _) => match x, y with
    | .nili, .iface _ _ => some false
    | .iface _ _, .nili => some false
    | _, _ => none
  | some (.struct _) => match P.eqGuardType P.depth t with
    | true => none
    | false => eqT P 8 t x y
  | _ => none

/-- nil held against the literal nil, both interfaces -/
def nilLit (x y : Operand) : Bool := match x with
  | .const _ => true
  | _ => match y with
    | .const _ => true
    | _ => false
def eqV (t : Nat) (lit : Bool) (x y : V) : Option Bool := match lit, x, y with
  | true, .nili, .nili => match P.underlying t with
    | some (.interface _) => some true
    | _ => none
  | _, x, y => descEq P t x y
def strBin (op : BinOp) (a : List Nat) (n : Nat) (b : List Nat) (m : Nat) : Option V := match op with
  | .add => match Nat.ble (n + m) 9223372036854775807 with
    | true => some (.str (lapp a b) (n + m))
    | false => none
  | .eql => some (.bool (leq a b))
  | .neq => some (.bool (bnot (leq a b)))
  | .lss => some (.bool (llt a b))
  | .gtr => some (.bool (llt b a))
  | .leq => some (.bool (bnot (llt b a)))
  | .geq => some (.bool (bnot (llt a b)))
  | _ => none
/-- a number of a range, held against one -/
def cmpR (op : BinOp) (lo hi b : Int) : Option V := match op with
  | .lss => match ile b lo, ile b hi with
    | true, _ => some (.bool false)
    | false, false => some (.bool true)
    | false, true => none
  | .geq => match ile b lo, ile b hi with
    | true, _ => some (.bool true)
    | false, false => some (.bool false)
    | false, true => none
  | .leq => match ile hi b, ile lo b with
    | true, _ => some (.bool true)
    | false, false => some (.bool false)
    | false, true => none
  | .gtr => match ile hi b, ile lo b with
    | true, _ => some (.bool false)
    | false, false => some (.bool true)
    | false, true => none
  | _ => none
/-- the same from the other side -/
def flipC (op : BinOp) : BinOp := match op with
  | .lss => .gtr
  | .gtr => .lss
  | .leq => .geq
  | .geq => .leq
  | op => op
def binV (op : BinOp) (t : Nat) (lit : Bool) (x y : V) : Option V := match x with
  | .int k a => match y with
    | .int j b => match op with
      | .shl => shiftV .shl k a b
      | .shr => shiftV .shr k a b
      | op => match sameK k j with
        | true => intBin op k a b
        | false => none
    | .rng j lo hi => match sameK k j with
      | true => cmpR (flipC op) lo hi a
      | false => none
    | _ => none
  | .rng k lo hi => match y with
    | .int j b => match sameK k j with
      | true => cmpR op lo hi b
      | false => none
    | _ => none
  | .str a n => match y with
    | .str b m => strBin op a n b m
    | _ => none
  | x => match op with
    | .eql => match eqV P t lit x y with
      | some r => some (.bool r)
      | none => none
    | .neq => match eqV P t lit x y with
      | some r => some (.bool (bnot r))
      | none => none
    | _ => none
def unV (op : UnOp) (x : V) : Option V := match x with
  | .int k n => match op with
    | .neg => some (.int k (k.wrap (0 - n)))
    | .xor => some (.int k (k.wrap (Int.ofNat (Nat.xor (toU k (match k.signed with | true => -1 | false => k.max)) (toU k n)))))
    | _ => none
  | .bool b => match op with
    | .not => some (.bool (bnot b))
    | _ => none
  | _ => none

def natOf (v : V) : Option Nat := match v with
  | .int _ (.ofNat n) => some n
  | _ => none
def natOr (v : Option V) (n : Nat) : Option Nat := match v with
  | none => some n
  | some v => natOf v

/-- where the fields of a struct lie, and how many cells they are -/
def placesL (l : List Field) : Option (List (Nat × Nat)) := List.rec (motive := fun _ => Option (List (Nat × Nat))) (some []) (fun f _ g => match szOf P f.type with
  | some n => match g with
    | some r => some ((f.offset, n) :: r)
    | none => none
  | none => none) l
def placesOf (t : Nat) : Option (List (Nat × Nat)) := match P.underlying t with
  | some (.struct fs) => placesL P fs.toList
  | _ => none
def placeS (pl : List (Nat × Nat)) (ps : List (Nat × V)) : List V → Option (List V) :=
  List.rec (motive := fun _ => List V → Option (List V)) (fun c => some c) (fun p _ g c => match nth pl p.1 with
    | some (o, n) => match V.cells p.2 with
      | some l => match Nat.beq (llen l) n with
        | true => match over c o l with
          | some c => g c
          | none => none
        | false => none
      | none => none
    | none => none) ps
def placeA (s : Nat) (ps : List (Nat × V)) : List V → Option (List V) :=
  List.rec (motive := fun _ => List V → Option (List V)) (fun c => some c) (fun p _ g c => match V.cells p.2 with
    | some l => match Nat.beq (llen l) s with
      | true => match over c (p.1 * s) l with
        | some c => g c
        | none => none
      | false => none
    | none => none) ps
def buildV (t : Nat) (ps : List (Nat × V)) : Option V := match zcells P t with
  | some z => match P.underlying t with
    | some (.struct _) => match placesOf P t with
      | some pl => match placeS pl ps z with
        | some c => some (.agg c)
        | none => none
      | none => none
    | some (.array _ e) => match szOf P e with
      | some s => match placeA s ps z with
        | some c => some (.agg c)
        | none => none
      | none => none
    | _ => none
  | none => none

/-- x[lo:hi:mx] -/
def sliceStr (s : List Nat) (n : Nat) (lo hi : Option V) : Option V := match natOr lo 0 with
  | some l => match hi with
    | none => match Nat.ble l n with
      | true => some (.str (ldrop l s) (n - l))
      | false => none
    | some v => match natOf v with
      | some h => match Nat.ble h n with
        | true => match Nat.ble l h with
          | true => some (.str (ltake (h - l) (ldrop l s)) (h - l))
          | false => none
        | false => none
      | none => none
  | none => none
def capAt (cap : Cap) (len h l : Nat) : Option Cap := match cap with
  | .ex c => match Nat.ble h c with
    | true => some (.ex (c - l))
    | false => none
  | .en d => match Nat.ble h len with
    | true => match Nat.blt l len with
      | true => some (.en (d + l))
      | false => match l with
        | 0 => some (.en d)
        | _ + 1 => none
    | false => none
def offAt (cap : Cap) (o l sz : Nat) : Nat := match cap with
  | .ex c => match Nat.beq c l with
    | true => o
    | false => o + l * sz
  | .en _ => o + l * sz
def sliceSl (sz b o len : Nat) (cap : Cap) (lo hi mx : Option V) : Option V := match natOr lo 0, natOr hi len with
  | some l, some h => match Nat.ble l h with
    | false => none
    | true => match mx with
      | none => match capAt cap len h l with
        | some c => some (.sl b (offAt cap o l sz) (h - l) c)
        | none => match cap with
          | .en _ => match Nat.ble h len, Nat.blt l len with
            | true, false => some .sl0
            | _, _ => none
          | .ex _ => none
      | some m => match natOf m with
        | some m => match Nat.ble h m with
          | true => match (match cap with | .ex c => Nat.ble m c | .en _ => Nat.ble m len) with
            | true => some (.sl b (offAt (.ex m) o l sz) (h - l) (.ex (m - l)))
            | false => none
          | false => none
        | none => none
  | _, _ => none
def sliceNil (lo hi mx : Option V) : Option V := match natOr lo 0, natOr hi 0, natOr mx 0 with
  | some 0, some 0, some 0 => match mx, hi with
    | some _, none => none
    | _, _ => some .nils
  | _, _, _ => none
def sliceArr (n sz b o : Nat) (lo hi mx : Option V) : Option V := match mx with
  | some _ => none
  | none => match natOr lo 0, natOr hi n with
    | some l, some h => match Nat.ble h n with
      | true => match Nat.ble l h with
        | true => some (.sl b (offAt (.ex n) o l sz) (h - l) (.ex (n - l)))
        | false => none
      | false => none
    | _, _ => none
def sliceV (t : Nat) (x : V) (lo hi mx : Option V) : Option V := match x with
  | .str s n => match P.underlying t with
    | some .string => match mx with
      | none => sliceStr s n lo hi
      | some _ => none
    | _ => none
  | .sl b o len cap => match elemOf P t with
    | some e => match szOf P e with
      | some sz => match mx, hi with
        | some _, none => none
        | _, _ => sliceSl sz b o len cap lo hi mx
      | none => none
    | none => none
  | .nils => match elemOf P t with
    | some e => match szOf P e with
      | some _ => sliceNil lo hi mx
      | none => none
    | none => none
  | .ptr b o => match P.underlying t with
    | some (.array n e) => match szOf P e with
      | some sz => sliceArr n sz b o lo hi mx
      | none => none
    | some (.pointer a) => match P.underlying a with
      | some (.array n e) => match szOf P e with
        | some sz => sliceArr n sz b o lo hi mx
        | none => none
      | _ => none
    | _ => none
  | _ => none

def indexAtV (t : Nat) (x : V) (i : Nat) : Option V := match x with
  | .sl b o len _ => match elemOf P t with
    | some e => match szOf P e with
      | some sz => match Nat.blt i len with
        | true => some (.ptr b (o + i * sz))
        | false => none
      | none => none
    | none => none
  | .ptr b o => match P.underlying t with
    | some (.array n e) => match szOf P e with
      | some sz => match Nat.blt i n with
        | true => some (.ptr b (o + i * sz))
        | false => none
      | none => none
    | _ => none
  | _ => none
def indexV (t : Nat) (x : V) (i : Nat) : Option V := match x with
  | .str s _ => match P.underlying t with
    | some .string => match nth s i with
      | some c => some (.int .u8 (.ofNat c))
      | none => none
    | _ => none
  | .agg l => match P.underlying t with
    | some (.array n e) => match szOf P e with
      | some sz => match Nat.blt i n with
        | true => partV P e l (i * sz)
        | false => none
      | none => none
    | _ => none
  | _ => none
def fieldAtV (t : Nat) (x : V) (f : Nat) : Option V := match x with
  | .ptr b o => match fieldOf P t f with
    | some (q, u) => match szOf P u with
      | some (_ + 1) => some (.ptr b (o + q))
      | _ => none
    | none => none
  | _ => none
def fieldV (t : Nat) (x : V) (f : Nat) : Option V := match x with
  | .agg l => match fieldOf P t f with
    | some (q, u) => partV P u l q
    | none => none
  | _ => none
def extractV (x : V) (i : Nat) : Option V := match x with
  | .tup l => nth l i
  | _ => none
def assertV (x : V) (xt u : Nat) (ok : Bool) : Option V := match P.underlying u with
  | none => none
  | some (.interface _) => none
  | some _ => match x with
    | .iface t v => match Nat.beq t u with
      | true => match ok with
        | true => some (.tup [v, .bool true])
        | false => some v
      | false => match ok with
        | true => match zeroOf P u with
          | some z => some (.tup [z, .bool false])
          | none => none
        | false => let _ := xt; none
    | .nili => match ok with
      | true => match zeroOf P u with
        | some z => some (.tup [z, .bool false])
        | none => none
      | false => none
    | _ => none
def nilChk (x : V) : Option V := match x with
  | .nilp => none
  | .nili => none
  | .nilf => none
  | .bad => none
  | .fn (.method _) _ _ => none
  | v => some v
def pickV (c a b : V) : Option V := match c with
  | .bool true => some a
  | .bool false => some b
  | _ => none
def faceV (t : Nat) (x : V) : Option V := match P.underlying t with
  | some (.interface _) => none
  | some _ => some (.iface t x)
  | none => none
def convP (s d : Nat) (x : V) : Option V := match x with
  | .int _ n => match P.underlying s with
    | some _ => match kindOf P d with
      | some k => some (.int k (k.wrap n))
      | none => none
    | none => none
  | .str l n => match P.underlying s with
    | some .string => match P.underlying d with
      | some .string => some (.str l n)
      | _ => none
    | _ => none
  | _ => none

def cellsOfBytes (l : List Nat) : List V := lmap (fun n => V.int .u8 (.ofNat n)) l
def bytesOfCells (l : List V) : Option (List Nat) := List.rec (motive := fun _ => Option (List Nat)) (some []) (fun v _ g => match v with
  | .int .u8 (.ofNat n) => match Nat.blt n 256 with
    | true => match g with
      | some r => some (n :: r)
      | none => none
    | false => none
  | _ => none) l

/-- the elements of an argument of append or copy -/
def elemsOf (sz : Nat) (x : V) : M (List V × Nat) := match x with
  | .str s n => match sz with
    | 1 => M.pure (cellsOfBytes s, n)
    | _ => M.fail
  | .nils => M.pure ([], 0)
  | .sl b o len _ => M.bind (cellsOf b) fun y => match y with
    | (c, _, _) => match sub c o (len * sz) with
      | some l => M.pure (l, len)
      | none => M.fail
  | _ => M.fail

/-- append of m > 0 elements to a slice of a block -/
def appendB (e sz b o len : Nat) (cap : Cap) (xs : List V) (n : Nat) : M V := M.bind (cellsOf b) fun y => match y with
  | (c, e', k) => match cap with
    | .ex m => match Nat.ble (len + n) m with
      | true => M.bind (own b k) fun _ => match over c (o + len * sz) xs with
        | some c => M.bind (putCells b c) fun _ => M.pure (.sl b o (len + n) (.ex m))
        | none => M.fail
      | false => match sub c o (len * sz) with
        | some old => M.bind (newG (lapp old xs) e) fun b' => M.pure (.sl b' 0 (len + n) (.en 0))
        | none => M.fail
    | .en d => match k with
      | 0 => M.fail
      | k + 1 => match Nat.beq o (d * sz), Nat.beq e e' with
        | true, true => match Nat.ble ((d + (len + n)) * sz) (llen c) with
          | true => M.bind (own b (k + 1)) fun _ => match over c (o + len * sz) xs with
            | some c => M.bind (putCells b c) fun _ => M.pure (.sl b o (len + n) (.en d))
            | none => M.fail
          | false => match sub c o (len * sz) with
            | some old => M.bind (getC (k + 1)) fun s => match s with
              | .mk _ _ true => M.fail
              | .mk _ _ false => M.bind (newC (lapp old xs) e (k + 1)) fun b' =>
                M.bind (setC (k + 1) (match Nat.beq (o + len * sz) (llen c) with
                  | true => .mk b b' false
                  | false => .mk b' b' false)) fun _ => M.pure (.sl b' 0 (len + n) (.en 0))
            | none => M.fail
        | _, _ => M.fail
def appendV (t u : Nat) (s x : V) : M V := match kindOf P u with
  | some _ => M.fail
  | none => match P.underlying u with
    | none => M.fail
    | some _ => match elemOf P t with
      | none => M.fail
      | some e => match P.info? e with
        | none => M.fail
        | some i => match Nat.blt 0 i.bytes, Nat.blt 0 i.size, zcells P e with
          | true, true, some z => match Nat.beq (llen z) i.size with
            | false => M.fail
            | true => M.bind (elemsOf i.size x) fun y => match y with
              | (xs, n) => match n with
                | 0 => (match s with
                  | .nils => M.pure s
                  | .sl _ _ _ _ => M.pure s
                  | _ => M.fail)
                | m + 1 => match s with
                  | .nils => match Nat.ble ((2 * (m + 1) + 1024) * i.bytes) 281474976710656 with
                    | true => M.bind (newG xs e) fun b => M.pure (.sl b 0 (m + 1) (.en 0))
                    | false => M.fail
                  | .sl b o len cap => match Nat.ble ((2 * (len + (m + 1)) + 1024) * i.bytes) 281474976710656 with
                    | true => appendB e i.size b o len cap xs (m + 1)
                    | false => M.fail
                  | _ => M.fail
          | _, _, _ => M.fail

def copyV (t : Nat) (d x : V) : M V := match elemOf P t with
  | none => M.fail
  | some e => match szOf P e with
    | none => M.fail
    | some sz => match d with
      | .nils => M.bind (elemsOf sz x) fun _ => M.pure (.int .i64 0)
      | .sl b o len _ => M.bind (elemsOf sz x) fun y => match y with
        | (xs, n) => M.bind (cellsOf b) fun z => match z with
          | (c, _, k) => M.bind (own b k) fun _ => match over c o (ltake (nmin n len * sz) xs) with
            | some c => M.bind (putCells b c) fun _ => M.pure (.int .i64 (.ofNat (nmin n len)))
            | none => M.fail
      | _ => M.fail

def lookE (kt : Nat) (k : V) (es : List (V × V × Nat)) : Option (Option (V × Nat)) := List.rec (motive := fun _ => Option (Option (V × Nat))) (some none)
  (fun e _ g => match eqT P 8 kt k e.1 with
    | some true => some (some e.2)
    | some false => g
    | none => none) es
/-- one and the same plain value? -/
def sameS (x y : V) : Bool := match x, y with
  | .bool a, .bool b => beq a b
  | .int k a, .int j b => match sameK k j with
    | true => ieq a b
    | false => false
  | .str a n, .str b m => match leq a b with
    | true => Nat.beq n m
    | false => false
  | _, _ => false
def sameSs (a b : List V) : Bool := List.rec (motive := fun _ => List V → Bool)
  (fun m => match m with | [] => true | _ :: _ => false)
  (fun x _ g m => match m with | [] => false | y :: m => match sameS x y with | true => g m | false => false) a b
def sameV (x y : V) : Bool := match x, y with
  | .agg a, .agg b => sameSs a b
  | x, y => sameS x y
/-- the value of a key that is there is put anew -/
def updE (kt : Nat) (k v : V) (es : List (V × V × Nat)) : Option (List (V × V × Nat)) := List.rec (motive := fun _ => Option (List (V × V × Nat))) none
  (fun e l g => match eqT P 8 kt k e.1 with
    | some true => match sameV k e.1 with
      | true => some ((k, v, e.2.2) :: l)
      | false => none
    | some false => match g with
      | some r => some (e :: r)
      | none => none
    | none => none) es
def putE (n : Nat) (v : V) (es : List (V × V × Nat)) : Option (List (V × V × Nat)) := List.rec (motive := fun _ => Option (List (V × V × Nat))) none
  (fun e l g => match Nat.beq e.2.2 n with
    | true => some ((e.1, v, n) :: l)
    | false => match g with
      | some r => some (e :: r)
      | none => none) es
/-- is a value a plain one of this type? -/
def fitsT (d : Nat) : Nat → V → Bool := Nat.rec (motive := fun _ => Nat → V → Bool) (fun _ _ => false)
  (fun _ g t x => match P.underlying t with
    | some .bool => match x with
      | .bool _ => true
      | _ => false
    | some (.int k) => match x with
      | .int j _ => sameK k j
      | _ => false
    | some .string => match x with
      | .str _ _ => true
      | _ => false
    | some (.struct fs) => match x with
      | .agg xs => fs.toList.all fun f => match partV P f.type xs f.offset with
        | some a => g f.type a
        | none => false
      | _ => false
    | _ => false) d
/-- may be a key of a map of this type -/
def keyOk (t : Nat) (k : V) : Bool := fitsT P 8 t k
def getMap (r : Nat) : M (List (V × V × Nat) × Nat) := M.bind (getB r) fun b => match b with
  | .map es cl => M.pure (es, cl)
  | _ => M.fail
def putMap (r : Nat) (es : List (V × V × Nat)) (cl : Nat) : M Unit := updB r fun b => match b with
  | .map _ _ => some (.map es cl)
  | _ => none
def lookS (n : Nat) (es : List (Nat × V)) : Option V := List.rec (motive := fun _ => Option V) none (fun e _ g => match Nat.beq e.1 n with
  | true => some e.2
  | false => g) es
/-- a new key among sorted ones -/
def insS (n : Nat) (v : V) (es : List (Nat × V)) : Option (List (Nat × V)) := List.rec (motive := fun _ => Option (List (Nat × V))) (some [(n, v)])
  (fun e l g => match Nat.beq e.1 n with
    | true => none
    | false => match Nat.ble n e.1 with
      | true => some ((n, v) :: e :: l)
      | false => match g with
        | some r => some (e :: r)
        | none => none) es
/-- a key's value, put among sorted ones -/
def setS (n : Nat) (v : V) (es : List (Nat × V)) : List (Nat × V) := List.rec (motive := fun _ => List (Nat × V)) [(n, v)]
  (fun e l g => match Nat.beq e.1 n with
    | true => (n, v) :: l
    | false => match Nat.ble n e.1 with
      | true => (n, v) :: e :: l
      | false => e :: g) es
/-- what is there at a key -/
def lookM (kt : Nat) (k : V) (b : B) : Option (Option V) := match b with
  | .map es _ => match lookE P kt k es with
    | some (some (v, _)) => some (some v)
    | some none => some none
    | none => none
  | .smap kd es => match k with
    | .int j (.ofNat n) => match sameK kd j with
      | true => some (lookS n es)
      | false => none
    | _ => none
  | _ => none
def found (o : Option V) (z : V) (ok : Bool) : V := match o with
  | some v => match ok with
    | true => .tup [v, .bool true]
    | false => v
  | none => match ok with
    | true => .tup [z, .bool false]
    | false => z
/-- the keys' type, and the value of a key that is not there, if keys may be such -/
def zeroAt (t : Nat) (k : V) : Option (Nat × V) := match P.underlying t with
  | some (.map kt e) => match keyOk P kt k with
    | true => match zeroOf P e with
      | some z => some (kt, z)
      | none => none
    | false => none
  | _ => none
def lookB (t : Nat) (k : V) (ok : Bool) (b : B) : Option V := match zeroAt P t k with
  | some (kt, z) => match lookM P kt k b with
    | some o => some (found o z ok)
    | none => none
  | none => none
def lenB (b : B) : Option V := match b with
  | .map es _ => some (.int .i64 (.ofNat (llen es)))
  | .smap _ es => some (.int .i64 (.ofNat (llen es)))
  | _ => none
/-- a literal's entry, in a map of the second make -/
def insertV (t bound : Nat) (x k v : V) : M Unit := match P.underlying t with
  | some (.map kt _) => match keyOk P kt k with
    | true => match x with
      | .map r => match Nat.blt r bound with
        | true => match k with
          | .int j (.ofNat n) => updB r fun b => match b with
            | .smap kd es => match sameK kd j with
              | true => match insS n v es with
                | some es => some (.smap kd es)
                | none => none
              | false => none
            | _ => none
          | _ => M.fail
        | false => M.fail
      | _ => M.fail
    | false => M.fail
  | _ => M.fail
def updM (kt : Nat) (k v : V) (b : B) : Option B := match b with
  | .map es cl => match lookE P kt k es with
    | some (some _) => match updE P kt k v es with
      | some es => some (.map es cl)
      | none => none
    | some none => some (.map (lapp es [(k, v, cl)]) (cl + 1))
    | none => none
  | .smap kd es => match k with
    | .int j (.ofNat n) => match sameK kd j with
      | true => some (.smap kd (setS n v es))
      | false => none
    | _ => none
  | _ => none
def mapUpdV (t : Nat) (x k v : V) : M Unit := match P.underlying t with
  | some (.map kt _) => match keyOk P kt k with
    | true => match x with
      | .map r => updB r (updM P kt k v)
      | _ => M.fail
    | false => M.fail
  | _ => M.fail
def mapEntV (t : Nat) (x k : V) : M V := match P.underlying t with
  | some (.map kt e) => match keyOk P kt k, zeroOf P e with
    | true, some z => match x with
      | .map r => M.bind (getMap r) fun y => match lookE P kt k y.1 with
        | some (some (v, n)) => match updE P kt k v y.1 with
          | some es => M.bind (putMap r es y.2) fun _ => M.pure (.tup [v, .int .i64 (.ofNat n)])
          | none => M.fail
        | some none => M.bind (putMap r (lapp y.1 [(k, z, y.2)]) (y.2 + 1)) fun _ => M.pure (.tup [z, .int .i64 (.ofNat y.2)])
        | none => M.fail
      | _ => M.fail
    | _, _ => M.fail
  | _ => M.fail
def entStV (x s v : V) : M Unit := match x with
  | .map r => match natOf s with
    | some n => M.bind (getMap r) fun y => match putE n v y.1 with
      | some es => putMap r es y.2
      | none => M.fail
    | none => M.fail
  | _ => M.fail

/-- the text of bytes of a block -/
def strB (s d o len : Nat) (b : B) : Option V := match P.underlying s, P.underlying d with
  | some (.slice e), some .string => match P.underlying e with
    | some (.int .u8) => match cellsB b with
      | some c => match sub c o len with
        | some l => match bytesOfCells l with
          | some r => some (.str r len)
          | none => none
        | none => none
      | none => none
    | _ => none
  | _, _ => none
def strNil (s d : Nat) : Option V := match P.underlying s, P.underlying d with
  | some (.slice e), some .string => match P.underlying e with
    | some (.int .u8) => some (.str [] 0)
    | _ => none
  | _, _ => none
def convE (s d : Nat) (x : V) : M V := match x with
  | .ptr b o => match P.underlying s, P.underlying d with
    | some (.pointer t), some .unsafePointer => M.bind (getB b) fun y => match y with
      | .cells c _ 0 => match Nat.blt o (llen c), szOf P t with
        | true, some (_ + 1) => M.pure x
        | _, _ => M.fail
      | _ => M.fail
    | some .unsafePointer, some (.pointer u) => M.bind (getB b) fun y => match y with
      | .cells c e 0 => match liesAt P P.depth e (llen c / P.cellsOf e) o u 1, szOf P u with
        | true, some _ => M.pure x
        | _, _ => M.fail
      | _ => M.fail
    | _, _ => M.fail
  | .str l n => match P.underlying s, P.underlying d with
    | some .string, some (.slice e) => match P.underlying e, szOf P e with
      | some (.int .u8), some 1 => M.bind (newG (cellsOfBytes l) e) fun b => M.pure (.sl b 0 n (.en 0))
      | _, _ => M.fail
    | _, _ => M.fail
  | _ => M.fail

def maxI (a b : Int) : Int := match ile b a with
  | true => a
  | false => b
def minI (a b : Int) : Int := match ile a b with
  | true => a
  | false => b
def lenP (t : Nat) (x : V) : Option V := match P.underlying t with
  | some .string => match x with
    | .str _ n => some (.int .i64 (.ofNat n))
    | _ => none
  | some (.slice _) => match x with
    | .sl _ _ n _ => some (.int .i64 (.ofNat n))
    | .nils => some (.int .i64 0)
    | .sl0 => some (.int .i64 0)
    | _ => none
  | some (.array n _) => some (.int .i64 (.ofNat n))
  | some (.pointer a) => match P.underlying a with
    | some (.array n _) => some (.int .i64 (.ofNat n))
    | _ => none
  | some (.map _ _) => match x with
    | .nilm => some (.int .i64 0)
    | _ => none
  | _ => none
def maxP (l : List V) : Option V := match l with
  | [.int k a, .int j b] => match sameK k j with
    | true => some (.int k (maxI a b))
    | false => none
  | [.int k a, .int j b, .int i c] => match sameK k j, sameK k i with
    | true, true => some (.int k (maxI (maxI a b) c))
    | _, _ => none
  | _ => none
def minP (l : List V) : Option V := match l with
  | [.int k a, .int j b] => match sameK k j with
    | true => some (.int k (minI a b))
    | false => none
  | _ => none
def dataP (l : List V) : Option V := match l with
  | [.sl b o _ (.ex (_ + 1))] => some (.ptr b o)
  | [.sl b o (_ + 1) (.en _)] => some (.ptr b o)
  | [.nils] => some .nilp
  | _ => none
/-- unsafe.String: the class is frozen from then on -/
def strE (pt : Nat) (l : List V) : M V := match l with
  | [p, n] => match natOf n with
    | none => M.fail
    | some 0 => (match p with
      | .nilp => M.pure (.str [] 0)
      | .ptr _ _ => M.pure (.str [] 0)
      | _ => M.fail)
    | some (m + 1) => match p with
      | .ptr b o => match P.underlying pt with
        | some (.pointer u) => M.bind (cellsOf b) fun y => match y with
          | (c, e, k) => match k with
            | 0 => M.fail
            | k + 1 => match Nat.beq e u, Nat.ble m 9223372036854775806, Nat.beq o 0, sub c o (m + 1), szOf P e with
              | true, true, true, some l, some 1 => match bytesOfCells l with
                | some r => M.bind (getC (k + 1)) fun s => match s with
                  | .mk a l _ => M.bind (setC (k + 1) (.mk a l true)) fun _ => M.pure (.str r (m + 1))
                | none => M.fail
              | _, _, _, _, _ => M.fail
        | _ => M.fail
      | _ => M.fail
  | _ => M.fail
end
end
end Go.Ev
/- The abstract evaluator: operations, regions, statements, calls. -/
namespace Go.Ev
open Go

structure Recs where
  code : Code → Fm → M (Nat × Nat × Fm)      -- 0 normal, 1 exit, 2 ret
  ops : Array Oper → List Oper → Fm → M Fm
  draw : Array Oper → Nat → List (Nat × Nat) → Fm → M Fm
  call : V → List V → M V
  defers : List Df → M Unit

/-- of which make an operation is: it looks at its operands alone; it reads; it makes one new block; it is a literal's entry at a number; it does more -/
inductive Kd where
  | p | l | a | i (n : Nat) | e

noncomputable section
variable (P : Program) (R : Recs)

def isMapT (t : Nat) : Bool := match P.underlying t with
  | some (.map _ _) => true
  | _ => false
def kd (o : Op) : Kd := match o with
  | .move _ => .p
  | .assign _ => .p
  | .pick _ _ _ => .p
  | .build _ _ => .p
  | .nilCheck _ => .p
  | .binOp _ _ _ _ _ => .p
  | .unOp _ _ _ => .p
  | .makeInterface _ _ => .p
  | .makeFunc _ _ _ => .p
  | .slice _ _ _ _ _ => .p
  | .fieldAddr _ _ _ => .p
  | .field _ _ _ => .p
  | .indexAddr _ _ _ => .p
  | .index _ _ _ => .p
  | .typeAssert _ _ _ _ => .p
  | .extract _ _ => .p
  | .load _ _ => .l
  | .lookup _ _ _ _ => .l
  | .alloc _ => .a
  | .box _ _ => .a
  | .buildSlice _ _ _ => .a
  | .makeMap _ _ => .a
  | .makeSlice _ _ _ => .a
  | .insert _ _ k _ => match k with
    | .const (.int _ (.ofNat n)) => .i n
    | _ => .e
  | .convert s d _ => match P.underlying d with
    | some (.int _) => .p
    | some .string => match P.underlying s with
      | some (.slice _) => .l
      | _ => .p
    | _ => .e
  | .call c => match c.callee with
    | .builtin b => match b with
      | .len => match nth c.argTypes.toList 0 with
        | some t => match isMapT P t with
          | true => .l
          | false => .p
        | none => .e
      | .max => .p
      | .min => .p
      | .unsafeSliceData => .p
      | _ => .e
    | _ => .e
  | _ => .e

def opds (tm : T V) (l : List Operand) : List V := lmap (opd P tm) l
def parts (tm : T V) (l : List (Nat × Operand)) : List (Nat × V) := lmap (fun p => (p.1, opd P tm p.2)) l
def opdO (tm : T V) (x : Option Operand) : Option V := match x with
  | some x => some (opd P tm x)
  | none => none

def builtinP (b : Builtin) (ts : List Nat) (l : List V) : Option V := match b with
  | .len => match ts with
    | t :: _ => match l with
      | [x] => lenP P t x
      | _ => none
    | [] => none
  | .max => maxP l
  | .min => minP l
  | .unsafeSliceData => dataP l
  | _ => none
def callP (tm : T V) (c : Call) : Option V := match c.callee with
  | .builtin b => builtinP P b c.argTypes.toList (opds P tm c.args.toList)
  | _ => none
def opP (tm : T V) (o : Op) : Option V := match o with
  | .move x => some (opd P tm x)
  | .assign x => some (opd P tm x)
  | .pick c a b => pickV (opd P tm c) (opd P tm a) (opd P tm b)
  | .build t ps => buildV P t (parts P tm ps.toList)
  | .nilCheck x => nilChk (opd P tm x)
  | .binOp op t x y _ => binV P op t (nilLit x y) (opd P tm x) (opd P tm y)
  | .unOp op _ x => unV op (opd P tm x)
  | .makeInterface t x => faceV P t (opd P tm x)
  | .makeFunc f a b => match f with
    | .yield _ => none
    | f => some (.fn f (opds P tm a.toList) (opds P tm b.toList))
  | .slice t x lo hi mx => sliceV P t (opd P tm x) (opdO P tm lo) (opdO P tm hi) (opdO P tm mx)
  | .fieldAddr t x f => fieldAtV P t (opd P tm x) f
  | .field t x f => fieldV P t (opd P tm x) f
  | .indexAddr t x i => match natOf (opd P tm i) with
    | some i => indexAtV P t (opd P tm x) i
    | none => none
  | .index t x i => match natOf (opd P tm i) with
    | some i => indexV P t (opd P tm x) i
    | none => none
  | .typeAssert x t u ok => assertV P (opd P tm x) t u ok
  | .extract t i => extractV (opd P tm t) i
  | .convert s d x => convP P s d (opd P tm x)
  | .call c => callP P tm c
  | _ => none

def bytesT (t : Nat) : Option Nat := match P.info? t with
  | some i => some i.bytes
  | none => none
def keyKind (t : Nat) : Option IntKind := match P.underlying t with
  | some (.map kt _) => kindOf P kt
  | _ => none
def newMap (t : Nat) (dr : Bool) : B := match dr with
  | false => .map [] 0
  | true => match keyKind P t with
    | some k => .smap k []
    | none => .map [] 0
def opA (dr : Bool) (tm : T V) (o : Op) : Option (B × (Nat → V)) := match o with
  | .alloc e => match zcells P e with
    | some z => some (.cells z e 0, fun id => .ptr id 0)
    | none => none
  | .box e x => match V.cells (opd P tm x) with
    | some z => some (.cells z e 0, fun id => .ptr id 0)
    | none => none
  | .buildSlice t n ps => match elemOf P t with
    | some e => match szOf P e with
      | some s => match Nat.ble (n * s) 16777216 with
        | true => match zcells P e with
          | some z => match Nat.beq (llen z) s with
            | true => match placeA s (parts P tm ps.toList) (rep n z) with
              | some c => some (.cells c e 0, fun id => .sl id 0 n (.ex n))
              | none => none
            | false => none
          | none => none
        | false => none
      | none => none
    | none => none
  | .makeMap t r => match r with
    | none => match isMapT P t with
      | true => some (newMap P t dr, fun id => .map id)
      | false => none
    | some x => match natOf (opd P tm x), isMapT P t with
      | some _, true => some (newMap P t dr, fun id => .map id)
      | _, _ => none
  | .makeSlice t l c => match natOf (opd P tm l), natOf (opd P tm c) with
    | some l, some c => match elemOf P t with
      | some e => match P.info? e with
        | some i => match zcells P e with
          | some z => match Nat.beq (llen z) i.size, Nat.blt 0 i.bytes, Nat.ble (i.bytes * c) 281474976710656, Nat.ble l c with
            | true, true, true, true => some (.cells (rep c z) e 0, fun id => .sl id 0 l (.ex c))
            | _, _, _, _ => none
          | none => none
        | none => none
      | none => none
    | _, _ => none
  | _ => none

/-- which function a method of a type is, if that needs no way to it -/
def methodF (t : Nat) (name : String) : Option Nat := match P.info? t with
  | some i => match i.methods.toList.find? (·.name == name) with
    | some m => match m.path.toList with
      | [] => match m.func with
        | some (f, ptr) => match P.underlying t with
          | some (.pointer _) => match ptr with
            | true => some f
            | false => none
          | some _ => match ptr with
            | true => none
            | false => some f
          | none => none
        | none => none
      | _ :: _ => none
    | none => none
  | none => none
def unit (m : M Unit) : M V := M.bind m fun _ => M.pure (.tup [])
def builtinE (b : Builtin) (ts : List Nat) (l : List V) : M V := match b with
  | .append => match ts with
    | t :: u :: _ => match l with
      | [s, x] => appendV P t u s x
      | _ => M.fail
    | _ => M.fail
  | .copy => match ts with
    | t :: _ => match l with
      | [d, x] => copyV P t d x
      | _ => M.fail
    | _ => M.fail
  | .unsafeString => match ts with
    | t :: _ => strE P t l
    | _ => M.fail
  | _ => M.fail
def callE (tm : T V) (c : Call) : M V := match c.callee with
  | .builtin b => builtinE P b c.argTypes.toList (opds P tm c.args.toList)
  | .value f => R.call (opd P tm f) (opds P tm c.args.toList)
  | .invoke r name => match opd P tm r with
    | .iface t v => match methodF P t name with
      | some f => R.call (.fn (.func f) [] []) (v :: opds P tm c.args.toList)
      | none => M.fail
    | _ => M.fail
def rangeV (t : Nat) (x : V) : M V := match x with
  | .str s _ => match P.underlying t with
    | some .string => M.bind (newB (.iter s 0)) fun b => M.pure (.ptr b 0)
    | _ => M.fail
  | .map r => match P.underlying t with
    | some (.map _ _) => M.bind (getB r) fun b => match b with
      | .map _ cl => M.bind (newB (.mit r cl)) fun b => M.pure (.ptr b 0)
      | .smap _ es => M.bind (newB (.mit r (llen es))) fun b => M.pure (.ptr b 0)
      | _ => M.fail
    | _ => M.fail
  | _ => M.fail
def putIter (b : Nat) (p : Nat) : M Unit := updB b fun x => match x with
  | .iter s _ => some (.iter s p)
  | _ => none
def nextV (x : V) (str : Bool) : M V := match str with
  | false => M.fail
  | true => match x with
    | .ptr b 0 => M.bind (getB b) fun y => match y with
      | .iter s p => match nth s p with
        | some c => match Nat.blt c 128 with
          | true => M.bind (putIter b (p + 1)) fun _ => M.pure (.tup [.bool true, .int .i64 (.ofNat p), .int .i32 (.ofNat c)])
          | false => M.fail
        | none => M.pure (.tup [.bool false])
      | _ => M.fail
    | _ => M.fail
def opE (tm : T V) (o : Op) : M V := match o with
  | .store t a x => match opd P tm a with
    | .ptr b q => unit (storeV P t b q (opd P tm x))
    | _ => M.fail
  | .convert s d x => convE P s d (opd P tm x)
  | .mapUpdate t m k x => unit (mapUpdV P t (opd P tm m) (opd P tm k) (opd P tm x))
  | .insert t m k x => unit (mapUpdV P t (opd P tm m) (opd P tm k) (opd P tm x))
  | .mapEntry t m k => mapEntV P t (opd P tm m) (opd P tm k)
  | .entryStore _ m s x => unit (entStV (opd P tm m) (opd P tm s) (opd P tm x))
  | .range t x => rangeV P t (opd P tm x)
  | .next it str => nextV (opd P tm it) str
  | .call c => callE P R tm c
  | _ => M.fail
/-- the operand of len -/
def lenArg (c : Call) : Option Operand := match c.callee with
  | .builtin .len => nth c.args.toList 0
  | _ => none
/-- which block a read reads -/
def readAt (tm : T V) (o : Op) : Option Nat := match o with
  | .load _ a => match opd P tm a with
    | .ptr b _ => some b
    | _ => none
  | .lookup _ x _ _ => match opd P tm x with
    | .map b => some b
    | _ => none
  | .convert _ _ x => match opd P tm x with
    | .sl b _ _ _ => some b
    | _ => none
  | .call c => match lenArg c with
    | some x => match opd P tm x with
      | .map b => some b
      | _ => none
    | none => none
  | _ => none
/-- what a read makes of the block -/
def readB (tm : T V) (o : Op) (b : B) : Option V := match o with
  | .load t a => match opd P tm a with
    | .ptr _ q => loadB P t q b
    | _ => none
  | .lookup t _ k ok => lookB P t (opd P tm k) ok b
  | .convert s d x => match opd P tm x with
    | .sl _ q len _ => strB P s d q len b
    | _ => none
  | .call _ => lenB b
  | _ => none
/-- what a read makes of nil -/
def readNil (tm : T V) (o : Op) : Option V := match o with
  | .lookup t x k ok => match opd P tm x with
    | .nilm => match zeroAt P t (opd P tm k) with
      | some (_, z) => some (found none z ok)
      | none => none
    | _ => none
  | .convert s d x => match opd P tm x with
    | .nils => strNil P s d
    | _ => none
  | .call c => match lenArg c with
    | some x => match opd P tm x with
      | .nilm => some (.int .i64 0)
      | _ => none
    | none => none
  | _ => none
def opL (tm : T V) (o : Op) : M V := match readAt P tm o with
  | some b => M.bind (getL b) fun x => M.lift (readB P tm o x)
  | none => M.lift (readNil P tm o)
def drOf (al : Option Nat) : Bool := match al with
  | none => false
  | some _ => true
def opV (al : Option Nat) (tm : T V) (o : Op) : M V := match kd P o with
  | .p => M.lift (opP P tm o)
  | .l => opL P tm o
  | .a => match opA P (drOf al) tm o with
    | some (b, mk) => M.bind (newAt al b) fun id => M.pure (mk id)
    | none => M.fail
  | .i _ => opE P R tm o
  | .e => opE P R tm o

/-- is an operation with this guard wanted? -/
def wantedV (tm : T V) (all : List Oper) (g : Option (Nat × Bool)) : Option Bool := match g with
  | none => some true
  | some (j, want) => match nth all j with
    | some o => match o.dst with
      | some d => match tm.get d with
        | some (.bool b) => some (beq b want)
        | some .bad => none
        | _ => some false
      | none => some false
    | none => some false
def put (f : Fm) (dst : Option Nat) (v : V) : M Fm := match dst with
  | none => M.pure f
  | some d => match Nat.blt d f.n with
    | true => M.pure { f with tm := f.tm.set d v }
    | false => M.fail
def deferV (f : Fm) (c : Call) (dst : Option Nat) : M Fm := match c.callee with
  | .value g => match c.args.toList with
    | [] => match f.rd with
      | none => match opd P f.tm g with
        | .fn (.func k) a b => put { f with defers := .call (.fn (.func k) a b) :: f.defers } dst (.tup [])
        | _ => M.fail
      | some _ => M.fail
    | _ :: _ => M.fail
  | _ => M.fail
def isRecover (o : Op) : Bool := match o with
  | .call c => match c.callee with
    | .builtin .recover => true
    | _ => false
  | _ => false
/-- recover: nothing panics -/
def recoverV (f : Fm) (dst : Option Nat) : M Fm := match f.rd with
  | none => put f dst .nili
  | some _ => M.fail
def oneOp (al : Option Nat) (all : List Oper) (o : Oper) (f : Fm) : M Fm := match wantedV f.tm all o.guard with
  | some true => match o.op with
    | .defer c => deferV P f c o.dst
    | op => match isRecover op with
      | true => recoverV f o.dst
      | false => M.bind (opV P R al f.tm op) fun v => put f o.dst v
  | some false => put f o.dst (.tup [])
  | none => M.fail
def opsF (all : Array Oper) (l : List Oper) (f : Fm) : M Fm := match l with
  | [] => M.pure f
  | o :: l => M.bind (oneOp P R none all.toList o f) fun f => R.ops all l f

-- REGIONS THAT DRAW THEIR ORDER

/-- by its flag: 1 a read of an old block; 2 of an old block that is whole, and not written since -/
def opD (start i flag : Nat) (tm : T V) (o : Op) : M V := match flag with
  | 0 => opV P R (some (start + i)) tm o
  | 2 => match readAt P tm o with
    | some b => M.bind (getOld start b) fun x => M.lift (readB P tm o x)
    | none => M.lift (readNil P tm o)
  | 1 => match readAt P tm o with
    | some b => match Nat.blt b start with
      | true => M.bind (getL b) fun x => match x with
        | .smap _ _ => M.fail
        | x => M.lift (readB P tm o x)
      | false => M.fail
    | none => M.lift (readNil P tm o)
  | m => match o with
    | .insert t x k v => unit (insertV P t (start + (m - 3)) (opd P tm x) (opd P tm k) (opd P tm v))
    | _ => M.fail
def oneD (start : Nat) (all : List Oper) (x : Nat × Nat) (f : Fm) : M Fm := match nth all x.1 with
  | some o => match wantedV f.tm all o.guard with
    | some true => M.bind (opD P R start x.1 x.2 f.tm o.op) fun v => put f o.dst v
    | some false => put f o.dst (.tup [])
    | none => M.fail
  | none => M.fail
def drawF (all : Array Oper) (start : Nat) (l : List (Nat × Nat)) (f : Fm) : M Fm := match l with
  | [] => M.pure f
  | x :: l => M.bind (oneD P R start all.toList x f) fun f => R.draw all start l f

def binding (e : Edge) : Bool := match e.ground with
  | .textOnly _ => false
  | .gcOnly _ => false
  | _ => true
/-- what an operation hangs on, and names -/
structure Od where
  b : Nat
  k : Kd
  dst : Option Nat
  looks : List Nat
  mp : Nat × Nat × Nat × Nat := (0, 0, 0, 0)
/-- a look-up in a map, or an entry for writing: where -/
def mpOf (o : Op) : Nat × Nat × Nat × Nat := match o with
  | .lookup t (.tmp m) (.tmp k) false => (1, t, m, k)
  | .mapEntry t (.tmp m) (.tmp k) => (2, t, m, k)
  | _ => (0, 0, 0, 0)
def tmpsOf (l : List Operand) : List Nat := List.rec (motive := fun _ => List Nat) [] (fun x _ g => match x with
  | .tmp t => t :: g
  | _ => g) l
def looksOf (all : List Oper) (o : Oper) : List Nat := match o.guard with
  | none => tmpsOf o.op.operands.toList
  | some (j, _) => match nth all j with
    | some x => match x.dst with
      | some d => d :: tmpsOf o.op.operands.toList
      | none => tmpsOf o.op.operands.toList
    | none => tmpsOf o.op.operands.toList
def maskOf (t : T Od) (l : List Edge) : Nat := List.rec (motive := fun _ => Nat) 0 (fun e _ g => match binding e with
  | true => match t.get e.on with
    | some d => Nat.lor (Nat.lor (Nat.shiftLeft 1 e.on) d.b) g
    | none => Nat.lor (Nat.shiftLeft 1 e.on) g
  | false => g) l
def odsOf (all : List Oper) (l : List Oper) : Nat → T Od → T Od := List.rec (motive := fun _ => Nat → T Od → T Od) (fun _ t => t)
  (fun o _ g i t => g (i + 1) (t.set i { b := maskOf t o.after.toList, k := kd P o.op, dst := o.dst, looks := looksOf all o, mp := mpOf o.op })) l
def memO (x : Option Nat) (l : List Nat) : Bool := match x with
  | none => false
  | some x => mem x l
def sameO (x y : Option Nat) : Bool := match x, y with
  | some a, some b => Nat.beq a b
  | _, _ => false
def oldRead (f : Nat) : Bool := match f with
  | 1 => true
  | 2 => true
  | _ => false
def okKinds (yi fy fx : Nat) (y x : Kd) : Bool := match y, x with
  | .p, _ => true
  | _, .p => true
  | .l, .l => true
  | .l, .a => true
  | .l, .i _ => Nat.beq fy 1
  | .a, .a => true
  | .a, .l => oldRead fx
  | .a, .i _ => Nat.ble fx (yi + 3)
  | .i _, .l => Nat.beq fx 1
  | .i _, .a => true
  | .i m, .i n => bnot (Nat.beq m n)
  | .e, .l => Nat.beq fx 2
  | .e, .a => true
  | _, _ => false
/-- is x a look-up, and y the entry of the same map at the same key? -/
def entPair (y : Od) (fx : Nat) (x : Od) : Bool := match fx, y.mp, x.mp with
  | 0, (2, a, b, c), (1, d, e, f) => match Nat.beq a d, Nat.beq b e with
    | true, true => Nat.beq c f
    | _, _ => false
  | _, _, _ => false
/-- may x, which is done behind y, be done ahead of it? -/
def okPair (yi fy : Nat) (y : Od) (fx : Nat) (x : Od) : Bool := match memO y.dst x.looks with
  | true => false
  | false => match memO x.dst y.looks with
    | true => false
    | false => match sameO x.dst y.dst with
      | true => false
      | false => match okKinds yi fy fx y.k x.k with
        | true => true
        | false => entPair y fx x
/-- fits a flag an operation's make? -/
def okFlag (fx : Nat) (x : Od) : Bool := match x.k with
  | .i _ => Nat.ble 3 fx
  | .l => Nat.ble fx 2
  | _ => match fx with
    | 0 => true
    | _ => false
def okAll (t : T Od) (x : Nat × Nat) (dx : Od) (prev : List (Nat × Nat)) : Bool := List.rec (motive := fun _ => Bool) true (fun y _ g => match Nat.testBit dx.b y.1 with
  | true => g
  | false => match t.get y.1 with
    | some dy => match okPair y.1 y.2 dy x.2 dx with
      | true => g
      | false => false
    | none => false) prev
def okOrder (n : Nat) (t : T Od) (l : List (Nat × Nat)) : Nat → List (Nat × Nat) → Bool := List.rec (motive := fun _ => Nat → List (Nat × Nat) → Bool)
  (fun seen _ => Nat.beq seen (2 ^ n - 1))
  (fun x _ g seen prev => match t.get x.1 with
    | some d => match Nat.blt x.1 n, Nat.testBit seen x.1, Nat.beq (Nat.land d.b seen) d.b, okFlag x.2 d with
      | true, false, true, true => match okAll t x d prev with
        | true => g (Nat.lor seen (Nat.shiftLeft 1 x.1)) (x :: prev)
        | false => false
      | _, _, _, _ => false
    | none => false) l
/-- the binding edges go back -/
def okEdges (l : List Oper) : Nat → Bool := List.rec (motive := fun _ => Nat → Bool) (fun _ => true)
  (fun o _ g i => match o.after.toList.all (fun e => match binding e with | true => Nat.blt e.on i | false => true) with
    | true => g (i + 1)
    | false => false) l
-- the order: each operation of the fourth make behind what it hangs on; the rest behind all
def emit (mask n : Nat) (seen : Nat) (acc : List Nat) : Nat × List Nat := Nat.rec (motive := fun _ => Nat × List Nat) (seen, acc)
  (fun i g => match g with
    | (s, a) => match Nat.testBit mask i, Nat.testBit s i with
      | true, false => (Nat.lor s (Nat.shiftLeft 1 i), i :: a)
      | _, _ => (s, a)) n
def orderOf (t : T Od) (n : Nat) : Nat × List Nat := Nat.rec (motive := fun _ => Nat × List Nat) (0, [])
  (fun i g => match g with
    | (s, a) => match t.get i with
      | some d => match d.k with
        | .e => emit (Nat.lor d.b (Nat.shiftLeft 1 i)) n s a
        | .i _ => emit (Nat.lor d.b (Nat.shiftLeft 1 i)) n s a
        | _ => (s, a)
      | none => (s, a)) n
def lrev (l : List Nat) : List Nat → List Nat := List.rec (motive := fun _ => List Nat → List Nat) (fun a => a) (fun x _ g a => g (x :: a)) l
/-- the least bit of a mask; n, if there is none -/
def low (m n : Nat) : Nat := Nat.rec (motive := fun _ => Nat) n (fun i g => match Nat.testBit m (n - 1 - i) with
  | true => nmin (n - 1 - i) g
  | false => g) n
def insMask (t : T Od) (n : Nat) : Nat := Nat.rec (motive := fun _ => Nat) 0 (fun i g => match t.get i with
  | some d => match d.k with
    | .i _ => Nat.lor g (Nat.shiftLeft 1 i)
    | _ => g
  | none => g) n
/-- of what must not be written, without the entries that a look-up does not mind -/
def eMask (t : T Od) (n : Nat) (d : Od) (eM : Nat) : Nat := match d.mp with
  | (1, _, _, _) => Nat.rec (motive := fun _ => Nat) eM (fun j g => match t.get j with
    | some y => match entPair y 0 d with
      | true => Nat.land g (Nat.xor (Nat.shiftLeft 1 j) (2 ^ n - 1))
      | false => g
    | none => g) n
  | _ => eM
def flagsOf (t : T Od) (n im : Nat) (l : List Nat) : Nat → Nat → List (Nat × Nat) := List.rec (motive := fun _ => Nat → Nat → List (Nat × Nat)) (fun _ _ => [])
  (fun i _ g eM aM => match t.get i with
    | some d => match d.k with
      | .e => (i, 0) :: g (Nat.lor eM (Nat.shiftLeft 1 i)) aM
      | .a => (i, 0) :: g eM (Nat.lor aM (Nat.shiftLeft 1 i))
      | .l => (i, match Nat.land (eMask t n d eM) (Nat.xor d.b (2 ^ n - 1)), Nat.land (Nat.lor aM im) (Nat.xor d.b (2 ^ n - 1)) with
        | 0, 0 => 0
        | 0, _ + 1 => 1
        | _ + 1, _ => 2) :: g eM aM
      | .i _ => (i, 3 + low (Nat.land aM (Nat.xor d.b (2 ^ n - 1))) n) :: g eM aM
      | .p => (i, 0) :: g eM aM
    | none => []) l
def planOf (ops : Array Oper) : Option (List (Nat × Nat)) :=
  let all := ops.toList
  let n := llen all
  let t := odsOf P all all 0 .e
  let o := lrev (emit (2 ^ n - 1) n (orderOf t n).1 (orderOf t n).2).2 []
  let pl := flagsOf t n (insMask t n) o 0 0
  match okEdges all 0 with
  | true => match okOrder n t pl 0 [] with
    | true => some pl
    | false => none
  | false => none
/-- does one read what must not be written? -/
def needs (l : List (Nat × Nat)) : Bool := List.rec (motive := fun _ => Bool) false (fun x _ g => match x.2 with
  | 2 => true
  | _ => g) l
def noDefer (l : List Oper) : Bool := l.all fun o => match o.op with
  | .defer _ => false
  | .select _ _ => false
  | _ => true

-- STATEMENTS

def regionF (ops : Array Oper) (draw : Bool) (f : Fm) : M Fm := match draw with
  | false => R.ops ops ops.toList f
  | true => match planOf P ops, noDefer ops.toList with
    | some pl, true => M.bind (reserve (llen ops.toList)) fun start => match needs pl with
      | true => guard start (R.draw ops start pl f)
      | false => R.draw ops start pl f
    | _, _ => M.fail
def getLoop (l : Nat) : M LoopB := M.bind (getB l) fun b => match b with
  | .loop r => M.pure r
  | _ => M.fail
def setLoop (l : Nat) (s : Nat) (p : Option Code) : M Unit := updB l fun b => match b with
  | .loop r => some (.loop { r with state := s, pending := p })
  | _ => none
def endLoopF (l : Nat) (f : Fm) : M (Nat × Nat × Fm) := M.bind (getLoop l) fun r => match r.state with
  | 1 => M.fail
  | _ => M.bind (setLoop l 3 r.pending) fun _ => match r.pending with
    | none => M.pure (0, 0, f)
    | some (.exit id) => M.pure (1, id, f)
    | some .ret => M.pure (2, 0, f)
    | some _ => M.fail
def rangeF (g : Operand) (ps : Array Nat) (assign body : Code) (f : Fm) : M (Nat × Nat × Fm) := match f.rd with
  | none => M.bind (newB (.dfr false)) fun d =>
    M.bind (newB (.loop { state := 0, pending := none, tm := f.tm, n := f.n, fn := f.fn, params := ps.toList, assign, body, dfr := d })) fun l =>
    M.bind (R.call (opd P f.tm g) [.yield l]) fun _ => endLoopF l { f with defers := .mark d :: f.defers }
  | some a => M.bind (getLoop a) fun r =>
    M.bind (newB (.loop { state := 0, pending := none, tm := f.tm, n := f.n, fn := f.fn, params := ps.toList, assign, body, dfr := r.dfr })) fun l =>
    M.bind (R.call (opd P f.tm g) [.yield l]) fun _ => endLoopF l f
def thenF (r : Nat × Nat × Fm) (k : Fm → M (Nat × Nat × Fm)) : M (Nat × Nat × Fm) := match r with
  | (x, id, f) => match x with
    | 0 => k f
    | x + 1 => M.pure (x + 1, id, f)
def blockF (id : Nat) (r : Nat × Nat × Fm) : M (Nat × Nat × Fm) := match r with
  | (x, i, f) => match x with
    | 1 => match Nat.beq i id with
      | true => M.pure (0, 0, f)
      | false => M.pure (1, i, f)
    | x => M.pure (x, i, f)
def condF (v : V) (a b : Code) (f : Fm) : M (Nat × Nat × Fm) := match v with
  | .bool true => R.code a f
  | .bool false => R.code b f
  | _ => M.fail
-- PLAIN VALUES, AND WHETHER TWO ARE ONE

/-- a value without a place -/
def flat1 (v : V) : Bool := match v with
  | .bool _ => true
  | .int _ _ => true
  | .str _ _ => true
  | .nilp => true
  | .nils => true
  | .nilm => true
  | .nilf => true
  | .nili => true
  | .rng _ _ _ => true
  | _ => false
def flatL (l : List V) : Bool := List.rec (motive := fun _ => Bool) true (fun v _ g => match flat1 v with
  | true => g
  | false => false) l
def flatA (v : V) : Bool := match v with
  | .agg l => flatL l
  | v => flat1 v
def eq1 (x y : V) : Bool := match x, y with
  | .bool a, .bool b => beq a b
  | .int k a, .int j b => match sameK k j with
    | true => ieq a b
    | false => false
  | .str a n, .str b m => match Nat.beq n m with
    | true => leq a b
    | false => false
  | .nilp, .nilp => true
  | .nils, .nils => true
  | .nilm, .nilm => true
  | .nilf, .nilf => true
  | .nili, .nili => true
  | _, _ => false
def eqL (a b : List V) : Bool := List.rec (motive := fun _ => List V → Bool)
  (fun m => match m with | [] => true | _ :: _ => false)
  (fun x _ g m => match m with | [] => false | y :: m => match eq1 x y with | true => g m | false => false) a b
def eqA (x y : V) : Bool := match x, y with
  | .agg a, .agg b => eqL a b
  | .agg _, _ => false
  | x, y => eq1 x y
/-- one value, places and all -/
def eqVs (g : V → V → Bool) (a b : List V) : Bool := List.rec (motive := fun _ => List V → Bool)
  (fun m => match m with | [] => true | _ :: _ => false)
  (fun x _ r m => match m with | [] => false | y :: m => match g x y with | true => r m | false => false) a b
def eqCap (a b : Cap) : Bool := match a, b with
  | .ex c, .ex d => Nat.beq c d
  | .en c, .en d => Nat.beq c d
  | _, _ => false
def eqStep (g : V → V → Bool) (x y : V) : Bool := match x, y with
    | .ptr a o, .ptr b q => match Nat.beq a b with
      | true => Nat.beq o q
      | false => false
    | .sl a o n c, .sl b q m e => match Nat.beq a b, Nat.beq o q, Nat.beq n m with
      | true, true, true => eqCap c e
      | _, _, _ => false
    | .map a, .map b => Nat.beq a b
    | .yield a, .yield b => Nat.beq a b
    | .fn (.func a) u v, .fn (.func b) w z => match Nat.beq a b, eqVs g u w with
      | true, true => eqVs g v z
      | _, _ => false
    | .iface t a, .iface u b => match Nat.beq t u with
      | true => g a b
      | false => false
    | .agg a, .agg b => eqVs g a b
    | .tup a, .tup b => eqVs g a b
    | x, y => eq1 x y
def eqF (d : Nat) : V → V → Bool := Nat.rec (motive := fun _ => V → V → Bool) (fun _ _ => false) (fun _ g => eqStep g) d

-- A RANGE OVER A MAP: its entries come in any order

structure ML where
  it : Nat
  nx : Nat
  mo : Nat
  pair : Nat
  nb : Nat
  aops : Array Oper
  code : Code
def stepParts (l : List Oper) : Option (Nat × Nat × Nat) := match l with
  | [a, b] => match a.op, b.op with
    | .next (.tmp it) false, .extract (.tmp nx') 0 => match a.dst, b.dst, a.guard, b.guard with
      | some nx, some mo, none, none => match Nat.beq nx nx' with
        | true => some (it, nx, mo)
        | false => none
      | _, _, _, _ => none
    | _, _ => none
  | _ => none
def asgParts (it : Nat) (l : List Oper) : Option Nat := match l with
  | a :: _ => match a.op with
    | .entry (.tmp it') => match a.dst, a.guard with
      | some pair, none => match Nat.beq it it' with
        | true => some pair
        | false => none
      | _, _ => none
    | _ => none
  | [] => none
def loopParts (id : Nat) (c : Code) : Option ML := match c with
  | .loop (.seq (.region _ sops false) (.seq (.cond (.tmp mo) .skip (.exit o)) (.block nb (.seq (.region _ aops false) code)))) => match stepParts sops.toList with
    | some (it, nx, mo') => match Nat.beq mo mo', Nat.beq o id, asgParts it aops.toList with
      | true, true, some pair => some { it, nx, mo, pair, nb, aops, code }
      | _, _, _ => none
    | none => none
  | _ => none
/-- nothing is known of the places behind -/
def killT (tm : T V) (it n : Nat) : T V := Nat.rec (motive := fun _ => T V) tm (fun i g => match Nat.blt it i, tm.get i with
  | false, some _ => g
  | _, _ => g.set i .bad) n
def killF (f : Fm) (it : Nat) : Fm := { f with tm := killT f.tm it f.n }
def bornOk (since : Nat) (es : List (V × V × Nat)) : Bool := List.rec (motive := fun _ => Bool) true (fun e l g => match Nat.blt e.2.2 since, l.all (fun x => bnot (Nat.beq x.2.2 e.2.2)) with
  | true, true => g
  | _, _ => false) es
def entriesOf (b : B) (since : Nat) : Option (List (V × V)) := match b with
  | .map es cl => match Nat.beq cl since, bornOk since es with
    | true, true => some (lmap (fun e => (e.1, e.2.1)) es)
    | _, _ => none
  | .smap kd es => match Nat.beq (llen es) since with
    | true => some (lmap (fun e => (.int kd (.ofNat e.1), e.2)) es)
    | false => none
  | _ => none
/-- plain keys, each once -/
def keysOk (l : List (V × V)) : Bool := List.rec (motive := fun _ => Bool) true (fun e l g => match flatA e.1, l.all (fun x => bnot (eqA e.1 x.1)) with
  | true, true => g
  | _, _ => false) l
/-- is a frame still this, in its places up to one? -/
def sameTo (f g : Fm) (n : Nat) : Bool := Nat.rec (motive := fun _ => Bool) true (fun i r => match tmpV f.tm i with
  | .bad => r
  | v => match eqF 6 v (tmpV g.tm i) with
    | true => r
    | false => false) n
def noDf (l : List Df) : Bool := match l with
  | [] => true
  | _ :: _ => false
def noRd (r : Option Nat) : Bool := match r with
  | none => true
  | some _ => false
def sameFm (f g : Fm) (it : Nat) : Bool := match noDf g.defers, noRd g.rd, Nat.beq f.n g.n, Nat.beq f.fn g.fn with
  | true, true, true, true => sameTo f g (it + 1)
  | _, _, _, _ => false
/-- a round, with an entry -/
def roundM (ml : ML) (f : Fm) (e : V × V) : M (Nat × Nat × Fm) :=
  M.bind (R.ops ml.aops (ml.aops.toList.drop 1) { f with tm := ((f.tm.set ml.nx (.tup [.bool true, e.1, e.2])).set ml.mo (.bool true)).set ml.pair (.tup [e.1, e.2]) }) fun f =>
    M.bind (R.code ml.code f) fun r => match r with
      | (x, i, f) => match x with
        | 1 => match Nat.beq i ml.nb with
          | true => M.pure (0, 0, f)
          | false => M.pure (1, i, f)
        | x => M.pure (x, i, f)
/-- goes it on, with nothing changed? or how does it end? -/
def oneE (ml : ML) (f : Fm) (h : H) (e : V × V) : Option (Option ((Nat × Nat × Fm) × H)) := match h with
  | .mk n gs wr bs cl => match roundM R ml f e (.mk n n 0 bs cl) with
    | some ((x, i, g), .mk n' _ wr' bs' cl') => match x with
      | 0 => match Nat.beq (lowBits n wr') 0, sameFm f g ml.it with
        | true, true => some none
        | _, _ => none
      | x + 1 => some (some ((x + 1, i, g), .mk n' gs (Nat.lor wr (lowBits gs wr')) bs' cl'))
    | none => none
def eachE (ml : ML) (f : Fm) (h : H) (l : List (V × V)) : Option (Option ((Nat × Nat × Fm) × H)) := List.rec (motive := fun _ => Option (Option ((Nat × Nat × Fm) × H))) (some none) (fun e _ g => match oneE R ml f h e with
  | some none => g
  | some (some r) => match g with
    | some none => some (some r)
    | _ => none
  | none => none) l
/-- the map, and its iterator, are touched by nobody -/
def lockH (h : H) (m b : Nat) : H := match h with
  | .mk n gs wr bs cl => .mk n gs (note gs b (note gs m wr)) ((bs.set m (.ro [])).set b (.ro [])) cl
def mapLoopF (id : Nat) (ml : ML) (f : Fm) : M (Nat × Nat × Fm) := M.bind (match tmpV f.tm ml.it with
  | .ptr b 0 => M.bind (getB b) fun x => match x with
    | .mit m since => M.bind (getB m) fun y => match entriesOf y since with
      | some l => M.pure (b, m, l)
      | none => M.fail
    | _ => M.fail
  | _ => M.fail) fun p => match p with
    | (b, m, l) => match keysOk l, noDf f.defers, noRd f.rd, Nat.blt ml.it ml.nx, Nat.blt ml.it ml.mo, Nat.blt ml.it ml.pair, Nat.blt ml.nx f.n, Nat.blt ml.mo f.n, Nat.blt ml.pair f.n with
      | true, true, true, true, true, true, true, true, true => fun h => match eachE R ml (killF f ml.it) (lockH h m b) l with
        | some none => some ((0, 0, { killF f ml.it with tm := ((killF f ml.it).tm.set ml.nx (.tup [.bool false])).set ml.mo (.bool false) }), lockH h m b)
        | some (some (r, h')) => blockF id r h'
        | none => none
      | _, _, _, _, _, _, _, _, _ => M.fail
def codeF (c : Code) (f : Fm) : M (Nat × Nat × Fm) := match c with
  | .skip => M.pure (0, 0, f)
  | .label _ => M.pure (0, 0, f)
  | .region _ ops d => M.bind (regionF P R ops d f) fun f => M.pure (0, 0, f)
  | .seq a b => M.bind (R.code a f) fun r => thenF r (R.code b)
  | .cond c a b => condF R (opd P f.tm c) a b f
  | .block id c => match loopParts id c with
    | some ml => mapLoopF R id ml f
    | none => M.bind (R.code c f) fun r => blockF id r
  | .loop c => M.bind (R.code c f) fun r => thenF r (R.code (.loop c))
  | .scope c => R.code c f
  | .exit id => M.pure (1, id, f)
  | .ret => M.pure (2, 0, f)
  | .rangeFunc g ps assign body => rangeF P R g ps assign body f
  | _ => M.fail

-- CALLS

def bindP (n : Nat) (ps : List Nat) : List V → T V → Option (T V) := List.rec (motive := fun _ => List V → T V → Option (T V))
  (fun as tm => match as with | [] => some tm | _ :: _ => none)
  (fun p _ g as tm => match as with
    | [] => none
    | a :: as => match Nat.blt p n with
      | true => g as (tm.set p a)
      | false => none) ps
def bindA (l : List V) : Nat → T V → T V := List.rec (motive := fun _ => Nat → T V → T V) (fun _ tm => tm) (fun a _ g i tm => g (i + 1) (tm.set i a)) l
def resV (tm : T V) (l : List ResultVar) : M (List V) := List.rec (motive := fun _ => M (List V)) (M.pure []) (fun r _ g => match r with
  | .tmp t => M.bind g fun l => M.pure (tmpV tm t :: l)
  | .cell a t => match tmpV tm a with
    | .ptr b o => M.bind (loadV P t b o) fun v => M.bind g fun l => M.pure (v :: l)
    | _ => M.fail) l
def tupV (l : List V) : V := match l with
  | [v] => v
  | l => .tup l
def takeD (d : Nat) : M Unit := updB d fun b => match b with
  | .dfr false => some (.dfr true)
  | _ => none
def defersF (l : List Df) : M Unit := match l with
  | [] => M.pure ()
  | .mark d :: l => M.bind (takeD d) fun _ => R.defers l
  | .call g :: l => M.bind (R.call g []) fun _ => R.defers l
def leaveF (fn : Func) (f : Fm) : M V := M.bind (R.defers f.defers) fun _ => M.bind (resV P f.tm fn.results.toList) fun l => M.pure (tupV l)
/-- what a round's body comes to: it goes on; or it jumps -/
def jumpOf (x id : Nat) : Option Code := match x with
  | 0 => none
  | 1 => some (.exit id)
  | _ => some .ret
def endRoundF (l : Nat) (jump : Option Code) : M V := match jump with
  | none => M.bind (setLoop l 0 none) fun _ => M.pure (.bool true)
  | some c => M.bind (setLoop l 2 (some c)) fun _ => M.pure (.bool false)
def yieldF (l : Nat) (args : List V) : M V := M.bind (getLoop l) fun r => match bindP r.n r.params args r.tm with
  | none => M.fail
  | some tm => M.bind (R.code r.assign { tm, n := r.n, fn := r.fn, defers := [], rd := some l }) fun x => match x with
    | (0, _, f) => M.bind (getLoop l) fun r' => match r'.state with
      | 0 => M.bind (setLoop l 1 r'.pending) fun _ => M.bind (R.code r.body f) fun y => match y.2.2.defers with
        | [] => endRoundF l (jumpOf y.1 y.2.1)
        | _ :: _ => M.fail
      | _ => M.fail
    | _ => M.fail
def findByte (c : Nat) (l : List Nat) : Nat → Int := List.rec (motive := fun _ => Nat → Int) (fun _ => .negSucc 0) (fun a _ g i => match Nat.beq a c with
  | true => .ofNat i
  | false => g (i + 1)) l
/-- the functions without a body that are known: 1 IndexByteString, 2 NoEscape -/
def extV (x : Nat) (l : List V) : M V := match x with
  | 1 => match l with
    | [.str s _, .int .u8 (.ofNat c)] => match Nat.blt c 256 with
      | true => M.pure (.int .i64 (findByte c s 0))
      | false => M.fail
    | _ => M.fail
  | 2 => match l with
    | [x] => M.pure x
    | _ => M.fail
  | _ => M.fail
/-- what is known of the program's functions beside their texts: its functions, which of them are known without a body; which calls are known -/
structure Known where
  fn : Nat → Option Func
  ext : Nat → Nat
  sum : Nat → List V → Option V
variable (K : Known)
def enterF (k : Nat) (args : List V) : M V := match K.fn k with
  | none => M.fail
  | some fn => match fn.body with
    | none => extV (K.ext k) args
    | some c => match Nat.ble (llen args) fn.ntmps with
      | false => M.fail
      | true => M.bind (R.code c { tm := bindA args 0 .e, n := fn.ntmps, fn := k, defers := [], rd := none }) fun x => match x.1 with
        | 1 => M.fail
        | _ => leaveF P R fn x.2.2
def callF (f : V) (args : List V) : M V := match f with
  | .yield l => yieldF R l args
  | .fn (.func k) first cap => match K.sum k (lapp first (lapp args cap)) with
    | some v => M.pure v
    | none => enterF P R K k (lapp first (lapp args cap))
  | .fn (.method name) first _ => match lapp first args with
    | .iface t v :: rest => match methodF P t name with
      | some k => R.call (.fn (.func k) [] []) (v :: rest)
      | none => M.fail
    | _ => M.fail
  | _ => M.fail

def evN (P : Program) (K : Known) (n : Nat) : Recs := Nat.rec (motive := fun _ => Recs)
  { code := fun _ _ => M.fail, ops := fun _ _ _ => M.fail, draw := fun _ _ _ _ => M.fail, call := fun _ _ => M.fail, defers := fun _ => M.fail }
  (fun _ R => { code := codeF P R, ops := opsF P R, draw := drawF P R, call := callF P R K, defers := defersF R }) n
end
end Go.Ev
/- How an abstract heap stands to a world. -/
namespace Go.Ev
open Go

def H.next (h : H) : Nat := match h with | .mk n _ _ _ _ => n
def H.gs (h : H) : Nat := match h with | .mk _ g _ _ _ => g
def H.wr (h : H) : Nat := match h with | .mk _ _ w _ _ => w
def H.bs (h : H) : T B := match h with | .mk _ _ _ b _ => b
def H.cl (h : H) : T Cl := match h with | .mk _ _ _ _ c => c

/-- a block's place in the world: its number there, where it begins in that, how many elements there are from there on -/
structure Loc where
  blk : Nat
  sh : Nat
  tot : Nat
abbrev Rn := Nat → Option Loc
def Rn.le (ρ ρ' : Rn) : Prop := ∀ i l, ρ i = some l → ρ' i = some l
theorem Rn.le_refl (ρ : Rn) : ρ.le ρ := fun _ _ h => h
theorem Rn.le_trans {a b c : Rn} (h : a.le b) (k : b.le c) : a.le c := fun i l x => k i l (h i l x)

mutual
inductive VR (ρ : Rn) : V → Value → Prop where
  | bool (b : Bool) : VR ρ (.bool b) (.bool b)
  | int (k : IntKind) (n : Int) : VR ρ (.int k n) (.int k n)
  | str (l : List Nat) (n : Nat) (s : ByteArray) (hl : ofBytes s = l) (hn : l.length = n) : VR ρ (.str l n) (.string s)
  | ptr (b o : Nat) (loc : Loc) (h : ρ b = some loc) : VR ρ (.ptr b o) (.pointer (some ⟨loc.blk, loc.sh + o, none⟩))
  | nilp : VR ρ .nilp (.pointer none)
  | slx (b o len c : Nat) (loc : Loc) (h : ρ b = some loc) (hc : len ≤ c) : VR ρ (.sl b o len (.ex c)) (.slice (some ⟨loc.blk, loc.sh + o, none⟩) len c)
  | sle (b o len d : Nat) (loc : Loc) (h : ρ b = some loc) (hc : d + len ≤ loc.tot) : VR ρ (.sl b o len (.en d)) (.slice (some ⟨loc.blk, loc.sh + o, none⟩) len (loc.tot - d))
  | nils : VR ρ .nils (.slice none 0 0)
  | sl0 (a : Addr) (c : Nat) : VR ρ .sl0 (.slice (some a) 0 c)
  | map (r : Nat) (loc : Loc) (h : ρ r = some loc) : VR ρ (.map r) (.map (some loc.blk))
  | nilm : VR ρ .nilm (.map none)
  | fn (f : Fn) (a c : List V) (a' c' : List Value) (hf : ∀ x, f ≠ .yield x) (ha : VRs ρ a a') (hc : VRs ρ c c') : VR ρ (.fn f a c) (.func f a'.toArray c'.toArray)
  | yield (l : Nat) (loc : Loc) (h : ρ l = some loc) : VR ρ (.yield l) (.func (.yield loc.blk) #[] #[])
  | nilf : VR ρ .nilf .nilFunc
  | iface (t : Nat) (v : V) (v' : Value) (h : VR ρ v v') : VR ρ (.iface t v) (.iface t v')
  | nili : VR ρ .nili .nilIface
  | agg (l : List V) (l' : List Value) (h : VRs ρ l l') (h1 : allOne l = true) : VR ρ (.agg l) (.agg l'.toArray)
  | tup (l : List V) (l' : List Value) (h : VRs ρ l l') : VR ρ (.tup l) (.tuple l'.toArray)
  | rng (k : IntKind) (lo hi n : Int) (h1 : lo ≤ n) (h2 : n ≤ hi) : VR ρ (.rng k lo hi) (.int k n)
  | bad (v : Value) : VR ρ .bad v
inductive VRs (ρ : Rn) : List V → List Value → Prop where
  | nil : VRs ρ [] []
  | cons (v : V) (v' : Value) (l : List V) (l' : List Value) (h : VR ρ v v') (hs : VRs ρ l l') : VRs ρ (v :: l) (v' :: l')
end

mutual
theorem VR.mono {ρ ρ' : Rn} (hle : ρ.le ρ') : ∀ {v : V} {v' : Value}, VR ρ v v' → VR ρ' v v'
  | _, _, .bool b => .bool b
  | _, _, .int k n => .int k n
  | _, _, .str l n s hl hn => .str l n s hl hn
  | _, _, .ptr b o loc h => .ptr b o loc (hle _ _ h)
  | _, _, .nilp => .nilp
  | _, _, .slx b o len c loc h hc => .slx b o len c loc (hle _ _ h) hc
  | _, _, .sle b o len d loc h hc => .sle b o len d loc (hle _ _ h) hc
  | _, _, .nils => .nils
  | _, _, .sl0 a c => .sl0 a c
  | _, _, .map r loc h => .map r loc (hle _ _ h)
  | _, _, .nilm => .nilm
  | _, _, .fn f a c a' c' hf ha hc => .fn f a c a' c' hf (VRs.mono hle ha) (VRs.mono hle hc)
  | _, _, .yield l loc h => .yield l loc (hle _ _ h)
  | _, _, .nilf => .nilf
  | _, _, .iface t v v' h => .iface t v v' (VR.mono hle h)
  | _, _, .nili => .nili
  | _, _, .agg l l' h h1 => .agg l l' (VRs.mono hle h) h1
  | _, _, .tup l l' h => .tup l l' (VRs.mono hle h)
  | _, _, .rng k lo hi n h1 h2 => .rng k lo hi n h1 h2
  | _, _, .bad v => .bad v
theorem VRs.mono {ρ ρ' : Rn} (hle : ρ.le ρ') : ∀ {l : List V} {l' : List Value}, VRs ρ l l' → VRs ρ' l l'
  | _, _, .nil => .nil
  | _, _, .cons v v' l l' h hs => .cons v v' l l' (VR.mono hle h) (VRs.mono hle hs)
end

theorem VR.one {ρ : Rn} {v : V} {v' : Value} (h : VR ρ v v') (h1 : V.one v = true) : v'.oneCell' = true := by
  cases h <;> first | rfl | (simp [V.one] at h1)

theorem VRs.length {ρ : Rn} {l : List V} {l' : List Value} (h : VRs ρ l l') : l.length = l'.length := by
  induction l generalizing l' with
  | nil => cases h; rfl
  | cons v l ih => cases h with | cons _ v' _ l'' hv hs => simp [ih hs]
theorem VRs.get {ρ : Rn} {l : List V} {l' : List Value} (h : VRs ρ l l') {i : Nat} {v : V} (hi : l[i]? = some v) : ∃ v', l'[i]? = some v' ∧ VR ρ v v' := by
  induction l generalizing l' i with
  | nil => simp at hi
  | cons a l ih =>
    cases h with
    | cons _ a' _ l'' ha hs =>
      cases i with
      | zero => simp at hi; subst hi; exact ⟨a', by simp, ha⟩
      | succ i => simp at hi; obtain ⟨v', h1, h2⟩ := ih hs hi; exact ⟨v', by simpa using h1, h2⟩
theorem VRs.of_get {ρ : Rn} {l : List V} {l' : List Value} (hl : l.length = l'.length) (h : ∀ (i : Nat) (v : V), l[i]? = some v → ∃ v', l'[i]? = some v' ∧ VR ρ v v') : VRs ρ l l' := by
  induction l generalizing l' with
  | nil => cases l' with | nil => exact .nil | cons => simp at hl
  | cons a l ih =>
    cases l' with
    | nil => simp at hl
    | cons a' l' =>
      obtain ⟨v', h1, h2⟩ := h 0 a rfl
      simp at h1; subst h1
      refine .cons _ _ _ _ h2 (ih (by simpa using hl) fun i v hi => ?_)
      obtain ⟨v', h1, h2⟩ := h (i + 1) v (by simpa using hi)
      exact ⟨v', by simpa using h1, h2⟩
theorem VRs.append {ρ : Rn} {a b : List V} {a' b' : List Value} (h : VRs ρ a a') (k : VRs ρ b b') : VRs ρ (a ++ b) (a' ++ b') := by
  induction a generalizing a' with
  | nil => cases h; exact k
  | cons v a ih => cases h with | cons _ v' _ l'' hv hs => exact .cons _ _ _ _ hv (ih hs)
theorem VRs.take {ρ : Rn} {a : List V} {a' : List Value} (h : VRs ρ a a') (n : Nat) : VRs ρ (a.take n) (a'.take n) := by
  induction a generalizing a' n with
  | nil => cases h; simp; exact .nil
  | cons v a ih => cases h with
    | cons _ v' _ l'' hv hs => cases n with
      | zero => simp; exact .nil
      | succ n => simp; exact .cons _ _ _ _ hv (ih hs n)
theorem VRs.drop {ρ : Rn} {a : List V} {a' : List Value} (h : VRs ρ a a') (n : Nat) : VRs ρ (a.drop n) (a'.drop n) := by
  induction a generalizing a' n with
  | nil => cases h; simp; exact .nil
  | cons v a ih => cases h with
    | cons _ v' _ l'' hv hs => cases n with
      | zero => simp; exact .cons _ _ _ _ hv hs
      | succ n => simp; exact ih hs n

-- THE LISTS' FUNCTIONS ARE THE LIBRARY's

theorem nth_eq {α : Type} (l : List α) (n : Nat) : nth l n = l[n]? := by
  induction l generalizing n with
  | nil => rfl
  | cons a l ih => cases n with
    | zero => rfl
    | succ n => exact (ih n).trans (by simp)
theorem llen_go {α : Type} (l : List α) (n : Nat) : (List.rec (motive := fun _ => Nat → Nat) (fun n => n) (fun _ _ g n => g (n + 1)) l : Nat → Nat) n = n + l.length := by
  induction l generalizing n with
  | nil => rfl
  | cons a l ih => exact (ih (n + 1)).trans (by simp; omega)
theorem llen_eq {α : Type} (l : List α) : llen l = l.length := (llen_go l 0).trans (by simp)
theorem ldrop_eq {α : Type} (n : Nat) (l : List α) : ldrop n l = l.drop n := by
  induction l generalizing n with
  | nil => simp; rfl
  | cons a l ih => cases n with
    | zero => rfl
    | succ n => exact (ih n).trans (by simp)
theorem ltake_eq {α : Type} (n : Nat) (l : List α) : ltake n l = l.take n := by
  induction l generalizing n with
  | nil => simp; rfl
  | cons a l ih => cases n with
    | zero => rfl
    | succ n => exact (congrArg (a :: ·) (ih n)).trans (by simp)
theorem lapp_eq {α : Type} (l m : List α) : lapp l m = l ++ m := by
  induction l with
  | nil => rfl
  | cons a l ih => exact congrArg (a :: ·) ih
theorem lmap_eq {α β : Type} (f : α → β) (l : List α) : lmap f l = l.map f := by
  induction l with
  | nil => rfl
  | cons a l ih => exact congrArg (f a :: ·) ih
theorem mem_iff (x : Nat) (l : List Nat) : mem x l = true ↔ x ∈ l := by
  induction l with
  | nil => simp [mem]
  | cons a l ih =>
    show (match Nat.beq a x with | true => true | false => mem x l) = true ↔ _
    by_cases h : a = x
    · subst h; simp
    · have : Nat.beq a x = false := by
        cases hb : Nat.beq a x with
        | false => rfl
        | true => exact absurd (Nat.eq_of_beq_eq_true hb) h
      rw [this]
      simp only [ih, List.mem_cons]
      exact ⟨.inr, fun h' => h'.resolve_left (fun e => h e.symm)⟩
theorem sub_some {α : Type} {l : List α} {o n : Nat} {r : List α} (h : sub l o n = some r) : o + n ≤ l.length ∧ r = (l.drop o).take n := by
  unfold sub at h
  split at h
  · rename_i hb
    rw [llen_eq] at hb
    injection h with h
    exact ⟨Nat.le_of_ble_eq_true hb, by rw [← h, ltake_eq, ldrop_eq]⟩
  · cases h
theorem over_some {α : Type} {l xs : List α} {o : Nat} {r : List α} (h : over l o xs = some r) : o + xs.length ≤ l.length ∧ r = l.take o ++ (xs ++ l.drop (o + xs.length)) := by
  unfold over at h
  split at h
  · rename_i hb
    rw [llen_eq, llen_eq] at hb
    injection h with h
    exact ⟨Nat.le_of_ble_eq_true hb, by rw [← h, lapp_eq, lapp_eq, ltake_eq, ldrop_eq, llen_eq]⟩
  · cases h
theorem allOne_iff (l : List V) : allOne l = true ↔ ∀ v ∈ l, V.one v = true := by
  induction l with
  | nil => simp [allOne]
  | cons a l ih =>
    show (match V.one a with | true => allOne l | false => false) = true ↔ _
    cases h : V.one a <;> simp [h, ih]
theorem beq_nat {a b : Nat} : Nat.beq a b = true ↔ a = b := ⟨Nat.eq_of_beq_eq_true, fun h => by subst h; exact Nat.beq_refl a⟩
theorem beq_nat_false {a b : Nat} : Nat.beq a b = false ↔ a ≠ b := by
  cases h : Nat.beq a b with
  | true => simp [beq_nat.1 h]
  | false => simp; intro e; rw [beq_nat.2 e] at h; cases h
theorem ble_nat {a b : Nat} : Nat.ble a b = true ↔ a ≤ b := ⟨Nat.le_of_ble_eq_true, Nat.ble_eq_true_of_le⟩
theorem ble_nat_false {a b : Nat} : Nat.ble a b = false ↔ b < a := by
  cases h : Nat.ble a b with
  | true => simp; exact ble_nat.1 h
  | false => simp; rcases Nat.lt_or_ge b a with h' | h'
             · exact h'
             · rw [ble_nat.2 h'] at h; cases h
theorem blt_nat {a b : Nat} : Nat.blt a b = true ↔ a < b := by unfold Nat.blt; exact ble_nat
theorem blt_nat_false {a b : Nat} : Nat.blt a b = false ↔ b ≤ a := by unfold Nat.blt; rw [ble_nat_false]; omega
theorem nmin_eq (a b : Nat) : nmin a b = min a b := by
  unfold nmin
  split
  · rename_i h; have := ble_nat.1 h; omega
  · rename_i h; have := ble_nat_false.1 h; omega

-- BLOCKS

/-- the cells of an array, from a place on -/
def CellsAt (ρ : Rn) (cs : Array Value) (sh : Nat) (c : List V) : Prop := ∀ j v, c[j]? = some v → ∃ v', cs[sh + j]? = some v' ∧ VR ρ v v'
theorem CellsAt.mono {ρ ρ' : Rn} {cs : Array Value} {sh : Nat} {c : List V} (hle : ρ.le ρ') (h : CellsAt ρ cs sh c) : CellsAt ρ' cs sh c :=
  fun j v hj => let ⟨v', a, b⟩ := h j v hj; ⟨v', a, b.mono hle⟩

def TmR (ρ : Rn) (tm : T V) (n : Nat) (tmps : Array Value) : Prop := tmps.size = n ∧ ∀ i, i < n → VR ρ (tmpV tm i) (tmps.getD i undef)
theorem TmR.mono {ρ ρ' : Rn} {tm : T V} {n : Nat} {tmps : Array Value} (hle : ρ.le ρ') (h : TmR ρ tm n tmps) : TmR ρ' tm n tmps :=
  ⟨h.1, fun i hi => (h.2 i hi).mono hle⟩

def stateOf (n : Nat) : LoopState := match n with
  | 0 => .ready
  | 1 => .busy
  | 2 => .done
  | _ => .exhausted

structure LR (ρ : Rn) (r : LoopB) (l : Loop) : Prop where
  state : l.state = stateOf r.state
  pending : l.pending = r.pending
  fn : l.fn = r.fn
  tm : TmR ρ r.tm r.n l.tmps
  low : ∀ t, r.n ≤ t → r.tm.get t = none
  params : l.params.toList = r.params
  assign : l.assign = r.assign
  body : l.body = r.body
  dfr : ∃ loc, ρ r.dfr = some loc ∧ l.defers = loc.blk

inductive EsR (ρ : Rn) : List (V × V × Nat) → List MapEntry → Prop where
  | nil : EsR ρ [] []
  | cons (k v : V) (n : Nat) (e : MapEntry) (l : List (V × V × Nat)) (l' : List MapEntry) (hk : VR ρ k e.key) (hv : VR ρ v e.val) (hn : e.born = n) (hs : EsR ρ l l') : EsR ρ ((k, v, n) :: l) (e :: l')

/-- a map by numbers, in whatever order -/
structure SmR (ρ : Rn) (k : IntKind) (es : List (Nat × V)) (es' : List MapEntry) : Prop where
  sorted : es.Pairwise fun a b => a.1 < b.1
  there : ∀ n v, (n, v) ∈ es → ∃ e ∈ es', e.key = .int k (Int.ofNat n) ∧ VR ρ v e.val
  here : ∀ e ∈ es', ∃ n v, (n, v) ∈ es ∧ e.key = .int k (Int.ofNat n) ∧ VR ρ v e.val
  apart : (es'.map (·.key)).Pairwise (· ≠ ·)

/-- the entries' births -/
structure MapOk (es' : List MapEntry) (n : Nat) : Prop where
  lt : ∀ e ∈ es', e.born < n
  nodup : (es'.map (·.born)).Nodup
variable (P : Program)

def BR (ρ : Rn) (cl : T Cl) (b : B) (loc : Loc) (w : World) : Prop := match b with
  | .cells c e 0 => loc.sh = 0 ∧ allOne c = true ∧ ∃ cs : Array Value, w.heap[loc.blk]? = some (.cells cs e (0, 0)) ∧ cs.size = c.length ∧ CellsAt ρ cs 0 c
  | .cells c e (k + 1) => allOne c = true ∧ ∃ cs fz, w.heap[loc.blk]? = some (.cells cs e fz) ∧ loc.sh + c.length ≤ cs.size ∧ c.length ≤ loc.tot * P.cellsOf e ∧ loc.sh + loc.tot * P.cellsOf e ≤ cs.size ∧
      CellsAt ρ cs loc.sh c ∧ ∀ a l, cl.get (k + 1) = some (.mk a l false) → cs.size ≤ fz.1 ∨ fz.2 ≤ fz.1
  | .ro c => allOne c = true ∧ (c = [] ∨ (loc.sh = 0 ∧ ∃ cs e fz, w.heap[loc.blk]? = some (.cells cs e fz) ∧ CellsAt ρ cs 0 c))
  | .hid => True
  | .map es n => ∃ es', w.heap[loc.blk]? = some (.map es' n) ∧ EsR ρ es es'.toList
  | .smap k es => ∃ es' : Array MapEntry, w.heap[loc.blk]? = some (.map es' es.length) ∧ SmR ρ k es es'.toList ∧ MapOk es'.toList es.length
  | .mit m since => ∃ mloc, ρ m = some mloc ∧ loc.sh = 0 ∧ w.heap[loc.blk]? = some (.mapIter (some mloc.blk) since #[] since)
  | .iter s p => loc.sh = 0 ∧ ∃ s', w.heap[loc.blk]? = some (.stringIter s' p) ∧ ofBytes s' = s
  | .loop r => ∃ l, w.heap[loc.blk]? = some (.loop l) ∧ LR ρ r l
  | .dfr t => w.heap[loc.blk]? = some (.deferred (if t then none else some []))

theorem EsR.mono {ρ ρ' : Rn} (hle : ρ.le ρ') {l : List (V × V × Nat)} {l' : List MapEntry} (h : EsR ρ l l') : EsR ρ' l l' := by
  induction h with
  | nil => exact .nil
  | cons k v n e l l' hk hv hn hs ih => exact .cons _ _ _ _ _ _ (hk.mono hle) (hv.mono hle) hn ih
theorem SmR.mono {ρ ρ' : Rn} (hle : ρ.le ρ') {k : IntKind} {l : List (Nat × V)} {l' : List MapEntry} (h : SmR ρ k l l') : SmR ρ' k l l' :=
  ⟨h.sorted, fun n v hv => let ⟨e, a, b, c⟩ := h.there n v hv; ⟨e, a, b, c.mono hle⟩, fun e he => let ⟨n, v, a, b, c⟩ := h.here e he; ⟨n, v, a, b, c.mono hle⟩, h.apart⟩
theorem LR.mono {ρ ρ' : Rn} (hle : ρ.le ρ') {r : LoopB} {l : Loop} (h : LR ρ r l) : LR ρ' r l :=
  ⟨h.state, h.pending, h.fn, h.tm.mono hle, h.low, h.params, h.assign, h.body, let ⟨loc, a, b⟩ := h.dfr; ⟨loc, hle _ _ a, b⟩⟩
/-- a block's relation hangs on what stands at its number, and on its class -/
theorem BR.mono {ρ ρ' : Rn} {cl cl' : T Cl} {b : B} {loc : Loc} {w w' : World} (h : BR P ρ cl b loc w) (hle : ρ.le ρ') (hw : w'.heap[loc.blk]? = w.heap[loc.blk]?)
    (hcl : ∀ c e k a l, b = .cells c e (k + 1) → cl'.get (k + 1) = some (.mk a l false) → ∃ a l, cl.get (k + 1) = some (.mk a l false)) : BR P ρ' cl' b loc w' := by
  cases b with
  | cells c e k =>
    cases k with
    | zero => obtain ⟨h1, h2, cs, h3, h4, h5⟩ := h; exact ⟨h1, h2, cs, hw ▸ h3, h4, h5.mono hle⟩
    | succ k =>
      obtain ⟨h1, cs, fz, h3, h4, h5, h6, h7, h8⟩ := h
      refine ⟨h1, cs, fz, hw ▸ h3, h4, h5, h6, h7.mono hle, fun a l ha => ?_⟩
      obtain ⟨a', l', h'⟩ := hcl c e k a l rfl ha
      exact h8 a' l' h'
  | ro c =>
    obtain ⟨h2, h3⟩ := h
    refine ⟨h2, h3.imp id ?_⟩
    rintro ⟨h1, cs, e, fz, h3, h4⟩
    exact ⟨h1, cs, e, fz, hw ▸ h3, h4.mono hle⟩
  | hid => trivial
  | map es n => obtain ⟨es', h1, h2⟩ := h; exact ⟨es', hw ▸ h1, h2.mono hle⟩
  | smap k es => obtain ⟨es', h1, h2, h3⟩ := h; exact ⟨es', hw ▸ h1, h2.mono hle, h3⟩
  | mit m since => obtain ⟨ml, h1, h2, h3⟩ := h; exact ⟨ml, hle _ _ h1, h2, hw ▸ h3⟩
  | iter s p => obtain ⟨h0, s', h1, h2⟩ := h; exact ⟨h0, s', hw ▸ h1, h2⟩
  | loop r => obtain ⟨l, h1, h2⟩ := h; exact ⟨l, hw ▸ h1, h2.mono hle⟩
  | dfr t => exact hw.trans h

/-- is a block live: of a class two are -/
def Lv (cl : T Cl) (i : Nat) (b : B) : Prop := match b with
  | .cells _ _ (k + 1) => ∃ a l fz, cl.get (k + 1) = some (.mk a l fz) ∧ (i = a ∨ i = l)
  | _ => True
def clsOf (b : B) : Nat := match b with
  | .cells _ _ k => k
  | _ => 0
def B.isRo (b : B) : Prop := match b with
  | .ro _ => True
  | _ => False
def B.len (b : B) : Nat := match b with
  | .cells c _ _ => c.length
  | _ => 0

def IsC (o : Option Obj) : Prop := ∃ cs e fz, o = some (.cells cs e fz)
def B.isObj (b : B) : Bool := match b with
  | .cells _ _ _ => false
  | .ro _ => false
  | .hid => false
  | _ => true
theorem BR.notC {ρ : Rn} {cl : T Cl} {b : B} {loc : Loc} {w : World} (h : BR P ρ cl b loc w) (hb : b.isObj = true) : ¬ IsC w.heap[loc.blk]? := by
  rintro ⟨cs, e, fz, hc⟩
  cases b with
  | cells _ _ _ => cases hb
  | ro _ => cases hb
  | hid => cases hb
  | map es n => obtain ⟨es', h1, _⟩ := h; rw [h1] at hc; cases hc
  | smap k es => obtain ⟨es', h1, _⟩ := h; rw [h1] at hc; cases hc
  | mit m since => obtain ⟨_, _, _, h1⟩ := h; rw [h1] at hc; cases hc
  | iter s p => obtain ⟨_, s', h1, _⟩ := h; rw [h1] at hc; cases hc
  | loop r => obtain ⟨l, h1, _⟩ := h; rw [h1] at hc; cases hc
  | dfr t => rw [show w.heap[loc.blk]? = _ from h] at hc; cases hc
structure HR (ρ : Rn) (h : H) (w : World) : Prop where
  dom : ∀ i, (∃ loc, ρ i = some loc) ↔ ∃ b, h.bs.get i = some b
  lt : ∀ i b, h.bs.get i = some b → i < h.next
  inb : ∀ i loc, ρ i = some loc → loc.blk < w.heap.size
  blk : ∀ i b loc, h.bs.get i = some b → Lv h.cl i b → ρ i = some loc → BR P ρ h.cl b loc w
  apart : ∀ i j b c li lj, h.bs.get i = some b → h.bs.get j = some c → Lv h.cl i b → Lv h.cl j c → ρ i = some li → ρ j = some lj → li.blk = lj.blk →
    i = j ∨ (0 < clsOf b ∧ clsOf b = clsOf c)
  chain : ∀ k a l fz b c la ll, h.cl.get (k + 1) = some (.mk a l fz) → h.bs.get a = some b → h.bs.get l = some c → clsOf b = k + 1 → clsOf c = k + 1 →
    ρ a = some la → ρ l = some ll → la.blk = ll.blk → la.sh + b.len ≤ ll.sh + c.len
  cls : ∀ i b, h.bs.get i = some b → clsOf b ≤ h.next
  gs : h.gs ≤ h.next
  cell : ∀ i c e k loc, h.bs.get i = some (.cells c e (k + 1)) → ρ i = some loc → IsC w.heap[loc.blk]?

/-- what may become of a world, seen from a heap -/
structure Ext (ρ : Rn) (h : H) (w : World) (ρ' : Rn) (h' : H) (w' : World) : Prop where
  le : ρ.le ρ'
  size : w.heap.size ≤ w'.heap.size
  same : ∀ c, c < w.heap.size → (∀ i loc, ρ i = some loc → loc.blk = c → ∃ r, h.bs.get i = some (.ro r)) → w'.heap[c]? = w.heap[c]?
  new : ∀ i loc, ρ' i = some loc → ρ i = some loc ∨ w.heap.size ≤ loc.blk ∨ ∃ j lj, ρ j = some lj ∧ lj.blk = loc.blk ∧ ∀ r, h.bs.get j ≠ some (.ro r)
  ro : ∀ i r, h.bs.get i = some (.ro r) → h'.bs.get i = some (.ro r)
  os : w'.os = w.os
  output : w'.output = w.output
  tape : w'.tape = w.tape

theorem Ext.refl (ρ : Rn) (h : H) (w : World) : Ext ρ h w ρ h w :=
  ⟨fun _ _ x => x, Nat.le_refl _, fun _ _ _ => rfl, fun _ _ x => .inl x, fun _ _ x => x, rfl, rfl, rfl⟩
theorem Ext.trans {ρ ρ1 ρ2 : Rn} {h h1 h2 : H} {w w1 w2 : World} (a : Ext ρ h w ρ1 h1 w1) (b : Ext ρ1 h1 w1 ρ2 h2 w2) : Ext ρ h w ρ2 h2 w2 := by
  refine ⟨Rn.le_trans a.le b.le, Nat.le_trans a.size b.size, ?_, ?_, fun i r x => b.ro i r (a.ro i r x), b.os.trans a.os, b.output.trans a.output, b.tape.trans a.tape⟩
  · intro c hc hr
    rw [b.same c (Nat.lt_of_lt_of_le hc a.size), a.same c hc hr]
    intro i loc hi hb
    rcases a.new i loc hi with h | h | ⟨j, lj, hj, hjb, hn⟩
    · obtain ⟨r, hr'⟩ := hr i loc h hb
      exact ⟨r, a.ro i r hr'⟩
    · omega
    · obtain ⟨r, hr'⟩ := hr j lj hj (hjb.trans hb)
      exact absurd hr' (hn r)
  · intro i loc hi
    rcases b.new i loc hi with h | h | ⟨j, lj, hj, hjb, hn⟩
    · exact a.new i loc h
    · exact .inr (.inl (Nat.le_trans a.size h))
    · rcases a.new j lj hj with h | h | ⟨j', lj', hj', hjb', hn'⟩
      · exact .inr (.inr ⟨j, lj, h, hjb, fun r x => hn r (a.ro j r x)⟩)
      · exact .inr (.inl (hjb ▸ h))
      · exact .inr (.inr ⟨j', lj', hj', hjb'.trans hjb, hn'⟩)
end Go.Ev
/- What becomes of an abstract heap and its world: a new block, a block that is written, one that is frozen, one that is grown in its place. -/
namespace Go.Ev
open Go
variable {P : Program}

def Rn.add (ρ : Rn) (id : Nat) (loc : Loc) : Rn := fun i => if i = id then some loc else ρ i
theorem Rn.add_same (ρ : Rn) (id : Nat) (loc : Loc) : ρ.add id loc id = some loc := by simp [Rn.add]
theorem Rn.add_ne {ρ : Rn} {id i : Nat} {loc : Loc} (h : i ≠ id) : ρ.add id loc i = ρ i := by simp [Rn.add, h]

theorem HR.none_of {ρ : Rn} {h : H} {w : World} (hr : HR P ρ h w) {id : Nat} (hn : h.bs.get id = none) : ρ id = none := by
  cases e : ρ id with
  | none => rfl
  | some l => obtain ⟨b, hb⟩ := (hr.dom id).1 ⟨l, e⟩; rw [hn] at hb; cases hb
theorem HR.le_add {ρ : Rn} {h : H} {w : World} (hr : HR P ρ h w) {id : Nat} (hn : h.bs.get id = none) (loc : Loc) : ρ.le (ρ.add id loc) := by
  intro i l hi
  rw [Rn.add_ne]
  · exact hi
  · intro e; subst e; rw [hr.none_of hn] at hi; cases hi

theorem Lv.congr {cl cl' : T Cl} {i : Nat} {b : B} (h : Lv cl i b) (hk : 0 < clsOf b → cl'.get (clsOf b) = cl.get (clsOf b)) : Lv cl' i b := by
  cases b with
  | cells c e k =>
    cases k with
    | zero => trivial
    | succ k => obtain ⟨a, l, fz, h1, h2⟩ := h; exact ⟨a, l, fz, (hk (Nat.succ_pos k)).trans h1, h2⟩
  | _ => trivial

/-- a new block -/
theorem HR.add {ρ : Rn} {h h' : H} {w w' : World} (hr : HR P ρ h w) {id tot : Nat} {b : B} {o : Obj}
    (hn : h.bs.get id = none) (hlt : id < h'.next) (hnx : h.next ≤ h'.next) (hbs : h'.bs = h.bs.set id b) (hgs : h'.gs = h.gs)
    (hcl : ∀ k, k ≠ clsOf b → h'.cl.get k = h.cl.get k)
    (hfr : 0 < clsOf b → (∀ i c, h.bs.get i = some c → clsOf c ≠ clsOf b) ∧ h'.cl.get (clsOf b) = some (.mk id id false) ∧ clsOf b ≤ h'.next)
    (hw : w'.heap = w.heap.push o) (h1 : w'.os = w.os) (h2 : w'.output = w.output) (h3 : w'.tape = w.tape)
    (hb : BR P (ρ.add id ⟨w.heap.size, 0, tot⟩) h'.cl b ⟨w.heap.size, 0, tot⟩ w') :
    Ext ρ h w (ρ.add id ⟨w.heap.size, 0, tot⟩) h' w' ∧ HR P (ρ.add id ⟨w.heap.size, 0, tot⟩) h' w' := by
  have hle := hr.le_add hn ⟨w.heap.size, 0, tot⟩
  have hget : ∀ i, i ≠ id → h'.bs.get i = h.bs.get i := fun i hi => by rw [hbs, T.get_set_ne _ _ hi]
  have hgid : h'.bs.get id = some b := by rw [hbs, T.get_set_same]
  have hold : ∀ c, c < w.heap.size → w'.heap[c]? = w.heap[c]? := fun c hc => by rw [hw, Array.getElem?_push, if_neg (by omega)]
  have hne : ∀ i c, h.bs.get i = some c → i ≠ id := fun i c hi e => by subst e; rw [hn] at hi; cases hi
  have hkk : ∀ i c, h.bs.get i = some c → 0 < clsOf c → h'.cl.get (clsOf c) = h.cl.get (clsOf c) := by
    intro i c hi hp
    refine hcl _ fun e => ?_
    exact (hfr (e ▸ hp)).1 i c hi e
  have hlv : ∀ i c, h.bs.get i = some c → Lv h'.cl i c → Lv h.cl i c := fun i c hi hl => hl.congr fun hp => (hkk i c hi hp).symm
  refine ⟨⟨hle, by rw [hw]; simp, fun c hc _ => hold c hc, ?_, ?_, h1, h2, h3⟩, ⟨?_, ?_, ?_, ?_, ?_, ?_, ?_, ?_, ?_⟩⟩
  · intro i loc hi
    by_cases e : i = id
    · subst e; rw [Rn.add_same] at hi; injection hi with hi; subst hi; exact .inr (.inl (Nat.le_refl _))
    · rw [Rn.add_ne e] at hi; exact .inl hi
  · intro i r hi; rw [hget i (hne i _ hi)]; exact hi
  · intro i
    by_cases e : i = id
    · subst e; exact ⟨fun _ => ⟨b, hgid⟩, fun _ => ⟨_, Rn.add_same _ _ _⟩⟩
    · rw [Rn.add_ne e, hget i e]; exact hr.dom i
  · intro i c hi
    by_cases e : i = id
    · subst e; exact hlt
    · rw [hget i e] at hi; exact Nat.lt_of_lt_of_le (hr.lt i c hi) hnx
  · intro i loc hi
    rw [hw]; simp only [Array.size_push]
    by_cases e : i = id
    · subst e; rw [Rn.add_same] at hi; injection hi with hi; subst hi; exact Nat.lt_succ_self _
    · rw [Rn.add_ne e] at hi; exact Nat.lt_succ_of_lt (hr.inb i loc hi)
  · intro i c loc hi hl hρ
    by_cases e : i = id
    · subst e
      rw [Rn.add_same] at hρ; injection hρ with hρ; subst hρ
      rw [hgid] at hi; injection hi with hi; subst hi
      exact hb
    · rw [Rn.add_ne e] at hρ
      rw [hget i e] at hi
      refine (hr.blk i c loc hi (hlv i c hi hl) hρ).mono P hle (hold _ (hr.inb i loc hρ)) ?_
      intro c' e' k a l hc hk
      refine ⟨a, l, ?_⟩
      have := hkk i c hi (by rw [hc]; exact Nat.succ_pos k)
      rw [hc] at this
      simp only [clsOf] at this
      rw [← this]; exact hk
  · intro i j bi bj li lj hi hj hli hlj hρi hρj hb'
    by_cases ei : i = id
    · by_cases ej : j = id
      · exact .inl (ei.trans ej.symm)
      · subst ei
        rw [Rn.add_same] at hρi; injection hρi with hρi; subst hρi
        rw [Rn.add_ne ej] at hρj
        have := hr.inb j lj hρj
        simp only at hb'; omega
    · by_cases ej : j = id
      · subst ej
        rw [Rn.add_same] at hρj; injection hρj with hρj; subst hρj
        rw [Rn.add_ne ei] at hρi
        have := hr.inb i li hρi
        simp only at hb'; omega
      · rw [Rn.add_ne ei] at hρi
        rw [Rn.add_ne ej] at hρj
        rw [hget i ei] at hi
        rw [hget j ej] at hj
        exact hr.apart i j bi bj li lj hi hj (hlv i _ hi hli) (hlv j _ hj hlj) hρi hρj hb'
  · intro k a l fz bi bj la ll hk ha hl hca hcl' hρa hρl hbb
    by_cases ek : k + 1 = clsOf b
    · obtain ⟨_, hs, _⟩ := hfr (by omega)
      rw [← ek, hk] at hs
      injection hs with hs
      injection hs with e1 e2 _
      subst e1; subst e2
      rw [ha] at hl; injection hl with hl; subst hl
      rw [hρa] at hρl; injection hρl with hρl; subst hρl
      exact Nat.le_refl _
    · have ea : a ≠ id := fun e => by subst e; rw [hgid] at ha; injection ha with ha; subst ha; exact ek hca.symm
      have el : l ≠ id := fun e => by subst e; rw [hgid] at hl; injection hl with hl; subst hl; exact ek hcl'.symm
      rw [Rn.add_ne ea] at hρa
      rw [Rn.add_ne el] at hρl
      rw [hget a ea] at ha
      rw [hget l el] at hl
      rw [hcl _ ek] at hk
      exact hr.chain k a l fz bi bj la ll hk ha hl hca hcl' hρa hρl hbb
  · intro i c hi
    by_cases e : i = id
    · subst e
      rw [hgid] at hi; injection hi with hi; subst hi
      rcases Nat.eq_zero_or_pos (clsOf b) with h0 | h0
      · omega
      · exact (hfr h0).2.2
    · rw [hget i e] at hi; exact Nat.le_trans (hr.cls i c hi) hnx
  · rw [hgs]; exact Nat.le_trans hr.gs hnx
  · intro i c e k loc hi hρ
    by_cases q : i = id
    · subst q
      rw [Rn.add_same] at hρ; injection hρ with hρ; subst hρ
      rw [hgid] at hi; injection hi with hi; subst hi
      obtain ⟨_, cs, fz, h3, _⟩ := hb
      exact ⟨cs, e, fz, h3⟩
    · rw [Rn.add_ne q] at hρ
      rw [hget i q] at hi
      rw [hold _ (hr.inb i loc hρ)]
      exact hr.cell i c e k loc hi hρ

/-- a block that is written: it alone is live in its class -/
theorem HR.upd {ρ : Rn} {h h' : H} {w w' : World} (hr : HR P ρ h w) {id : Nat} {b b' : B} {loc : Loc} {o : Obj}
    (hi : h.bs.get id = some b) (hlv : Lv h.cl id b) (hρ : ρ id = some loc) (hk : clsOf b' = clsOf b) (hnr : ∀ r, b ≠ .ro r)
    (hnx : h'.next = h.next) (hgs : h'.gs = h.gs) (hbs : h'.bs = h.bs.set id b')
    (hcl : ∀ k, k ≠ clsOf b → h'.cl.get k = h.cl.get k) (hone : 0 < clsOf b → ∃ fz, h'.cl.get (clsOf b) = some (.mk id id fz))
    (hw : w'.heap = w.heap.setIfInBounds loc.blk o) (h1 : w'.os = w.os) (h2 : w'.output = w.output) (h3 : w'.tape = w.tape)
    (hko : IsC w.heap[loc.blk]? → IsC (some o)) (hb : BR P ρ h'.cl b' loc w') : Ext ρ h w ρ h' w' ∧ HR P ρ h' w' := by
  have hget : ∀ i, i ≠ id → h'.bs.get i = h.bs.get i := fun i hi => by rw [hbs, T.get_set_ne _ _ hi]
  have hgid : h'.bs.get id = some b' := by rw [hbs, T.get_set_same]
  have hold : ∀ c, c ≠ loc.blk → w'.heap[c]? = w.heap[c]? := fun c hc => by rw [hw, Array.getElem?_setIfInBounds, if_neg (fun e => hc e.symm)]
  -- whoever else is live is of another class
  have hoth : ∀ j c, j ≠ id → h.bs.get j = some c → Lv h'.cl j c → clsOf c ≠ clsOf b ∨ clsOf c = 0 := by
    intro j c hj hc hl
    rcases Nat.eq_zero_or_pos (clsOf c) with h0 | h0
    · exact .inr h0
    · refine .inl fun e => ?_
      obtain ⟨fz, hf⟩ := hone (e ▸ h0)
      cases c with
      | cells c e' k =>
        cases k with
        | zero => simp [clsOf] at h0
        | succ k =>
          obtain ⟨a, l, fz', ha, hal⟩ := hl
          have e2 : clsOf b = k + 1 := e.symm
          rw [e2, ha] at hf
          injection hf with hf
          injection hf with e1 e3 _
          rcases hal with x | x
          · exact hj (x.trans e1)
          · exact hj (x.trans e3)
      | _ => simp [clsOf] at h0
  have hlvo : ∀ j c, j ≠ id → h.bs.get j = some c → Lv h'.cl j c → Lv h.cl j c := by
    intro j c hj hc hl
    refine hl.congr fun hp => ?_
    rcases hoth j c hj hc hl with x | x
    · exact (hcl _ x).symm
    · omega
  have hfar : ∀ j c lj, j ≠ id → h.bs.get j = some c → Lv h'.cl j c → ρ j = some lj → lj.blk ≠ loc.blk := by
    intro j c lj hj hc hl hρj e
    rcases hr.apart j id c b lj loc hc hi (hlvo j c hj hc hl) hlv hρj hρ e with x | ⟨x, y⟩
    · exact hj x
    · rcases hoth j c hj hc hl with z | z
      · exact z y
      · omega
  refine ⟨⟨Rn.le_refl ρ, by rw [hw]; simp, ?_, fun _ _ x => .inl x, ?_, h1, h2, h3⟩, ⟨?_, ?_, ?_, ?_, ?_, ?_, ?_, ?_, ?_⟩⟩
  · intro c hc hro
    refine hold c fun e => ?_
    obtain ⟨r, hr'⟩ := hro id loc hρ e.symm
    rw [hi] at hr'; injection hr' with hr'
    exact hnr r hr'
  · intro i r hir
    rw [hget i (fun e => by subst e; rw [hi] at hir; injection hir with hir; exact hnr r hir)]; exact hir
  · intro i
    by_cases e : i = id
    · subst e; exact ⟨fun _ => ⟨b', hgid⟩, fun _ => ⟨loc, hρ⟩⟩
    · rw [hget i e]; exact hr.dom i
  · intro i c hc
    rw [hnx]
    by_cases e : i = id
    · subst e; exact hr.lt _ _ hi
    · rw [hget i e] at hc; exact hr.lt i c hc
  · intro i l hl; rw [hw]; simp only [Array.size_setIfInBounds]; exact hr.inb i l hl
  · intro i c l hc hl hρi
    by_cases e : i = id
    · subst e
      rw [hgid] at hc; injection hc with hc; subst hc
      rw [hρ] at hρi; injection hρi with hρi; subst hρi
      exact hb
    · rw [hget i e] at hc
      refine (hr.blk i c l hc (hlvo i c e hc hl) hρi).mono P (Rn.le_refl ρ) (hold _ (hfar i c l e hc hl hρi)) ?_
      intro c' e' k a l' hck hk'
      refine ⟨a, l', ?_⟩
      rcases hoth i c e hc hl with x | x
      · rw [hck] at x; simp only [clsOf] at x; rw [← hcl _ x]; exact hk'
      · rw [hck] at x; simp [clsOf] at x
  · intro i j bi bj li lj hci hcj hli hlj hρi hρj hbb
    by_cases ei : i = id
    · by_cases ej : j = id
      · exact .inl (ei.trans ej.symm)
      · subst ei
        rw [hget j ej] at hcj
        rw [hρ] at hρi; injection hρi with hρi; subst hρi
        exact absurd hbb.symm (hfar j bj lj ej hcj hlj hρj)
    · by_cases ej : j = id
      · subst ej
        rw [hget i ei] at hci
        rw [hρ] at hρj; injection hρj with hρj; subst hρj
        exact absurd hbb (hfar i bi li ei hci hli hρi)
      · rw [hget i ei] at hci
        rw [hget j ej] at hcj
        exact hr.apart i j bi bj li lj hci hcj (hlvo i _ ei hci hli) (hlvo j _ ej hcj hlj) hρi hρj hbb
  · intro k a l fz bi bj la ll hk' ha hl hca hcl' hρa hρl hbb
    by_cases ek : k + 1 = clsOf b
    · obtain ⟨fz', hs⟩ := hone (by omega)
      rw [← ek, hk'] at hs
      injection hs with hs
      injection hs with e1 e2 _
      subst e1; subst e2
      rw [ha] at hl; injection hl with hl; subst hl
      rw [hρa] at hρl; injection hρl with hρl; subst hρl
      exact Nat.le_refl _
    · have ea : a ≠ id := fun e => by subst e; rw [hgid] at ha; injection ha with ha; subst ha; exact ek (hca.symm.trans hk)
      have el : l ≠ id := fun e => by subst e; rw [hgid] at hl; injection hl with hl; subst hl; exact ek (hcl'.symm.trans hk)
      rw [hget a ea] at ha
      rw [hget l el] at hl
      rw [hcl _ ek] at hk'
      exact hr.chain k a l fz bi bj la ll hk' ha hl hca hcl' hρa hρl hbb
  · intro i c hc
    rw [hnx]
    by_cases e : i = id
    · subst e
      rw [hgid] at hc; injection hc with hc; subst hc
      rw [hk]; exact hr.cls _ _ hi
    · rw [hget i e] at hc; exact hr.cls i c hc
  · rw [hgs, hnx]; exact hr.gs
  · intro i c e k l hc hρi
    by_cases q : i = id
    · subst q
      rw [hgid] at hc; injection hc with hc; subst hc
      rw [hρ] at hρi; injection hρi with hρi; subst hρi
      obtain ⟨_, cs, fz, h3, _⟩ := hb
      exact ⟨cs, e, fz, h3⟩
    · rw [hget i q] at hc
      have hold' := hr.cell i c e k l hc hρi
      by_cases z : l.blk = loc.blk
      · rw [z] at hold' ⊢
        rw [hw, Array.getElem?_setIfInBounds, if_pos rfl, if_pos (hr.inb _ _ hρ)]
        exact hko hold'
      · rw [hold _ z]; exact hold'

/-- nothing but what is noted, and how many numbers are given, changes -/
theorem HR.same {ρ : Rn} {h h' : H} {w w' : World} (hr : HR P ρ h w) (hnx : h.next ≤ h'.next) (hgs : h'.gs ≤ h'.next) (hbs : h'.bs = h.bs) (hcl : h'.cl = h.cl)
    (hw : w'.heap = w.heap) (h1 : w'.os = w.os) (h2 : w'.output = w.output) (h3 : w'.tape = w.tape) : Ext ρ h w ρ h' w' ∧ HR P ρ h' w' := by
  refine ⟨⟨Rn.le_refl ρ, by rw [hw]; exact Nat.le_refl _, fun c _ _ => by rw [hw], fun _ _ x => .inl x, fun i r x => by rw [hbs]; exact x, h1, h2, h3⟩, ⟨?_, ?_, ?_, ?_, ?_, ?_, ?_, hgs, ?_⟩⟩
  · rw [hbs]; exact hr.dom
  · rw [hbs]; exact fun i b hb => Nat.lt_of_lt_of_le (hr.lt i b hb) hnx
  · rw [hw]; exact hr.inb
  · rw [hbs, hcl]
    intro i b loc hb hl hρ
    exact (hr.blk i b loc hb hl hρ).mono P (Rn.le_refl ρ) (by rw [hw]) (fun _ _ _ a l _ hk => ⟨a, l, hk⟩)
  · rw [hbs, hcl]; exact hr.apart
  · rw [hbs, hcl]; exact hr.chain
  · rw [hbs]; exact fun i b hb => Nat.le_trans (hr.cls i b hb) hnx
  · rw [hbs, hw]; exact hr.cell

/-- a block of a class that is frozen -/
theorem HR.freeze {ρ : Rn} {h h' : H} {w w' : World} (hr : HR P ρ h w) {id k a l : Nat} {fz : Bool} {c : List V} {e : Nat} {loc : Loc} {cs : Array Value} {e' : Nat} {f f' : Nat × Nat}
    (hi : h.bs.get id = some (.cells c e (k + 1))) (hs : h.cl.get (k + 1) = some (.mk a l fz)) (hal : id = a ∨ id = l) (hρ : ρ id = some loc)
    (hnx : h'.next = h.next) (hgs : h'.gs = h.gs) (hbs : h'.bs = h.bs) (hcl : h'.cl = h.cl.set (k + 1) (.mk a l true))
    (hblk : w.heap[loc.blk]? = some (.cells cs e' f)) (hw : w'.heap = w.heap.setIfInBounds loc.blk (.cells cs e' f'))
    (h1 : w'.os = w.os) (h2 : w'.output = w.output) (h3 : w'.tape = w.tape) : Ext ρ h w ρ h' w' ∧ HR P ρ h' w' := by
  have hlv : Lv h.cl id (.cells c e (k + 1)) := ⟨a, l, fz, hs, hal⟩
  have hin : loc.blk < w.heap.size := hr.inb _ _ hρ
  have hold : ∀ x, x ≠ loc.blk → w'.heap[x]? = w.heap[x]? := fun x hx => by rw [hw, Array.getElem?_setIfInBounds, if_neg (fun e => hx e.symm)]
  have hnew : w'.heap[loc.blk]? = some (.cells cs e' f') := by rw [hw, Array.getElem?_setIfInBounds, if_pos rfl, if_pos hin]
  have hgk : ∀ j, j ≠ k + 1 → h'.cl.get j = h.cl.get j := fun j hj => by rw [hcl, T.get_set_ne _ _ hj]
  have hgs' : h'.cl.get (k + 1) = some (.mk a l true) := by rw [hcl, T.get_set_same]
  have hlvo : ∀ j b, Lv h'.cl j b → Lv h.cl j b := by
    intro j b hl
    cases b with
    | cells c2 e2 k2 =>
      cases k2 with
      | zero => trivial
      | succ k2 =>
        obtain ⟨a2, l2, f2, h4, h5⟩ := hl
        by_cases ek : k2 = k
        · subst ek
          rw [hgs'] at h4; injection h4 with h4; injection h4 with x y _
          subst x; subst y
          exact ⟨a, l, fz, hs, h5⟩
        · exact ⟨a2, l2, f2, by rw [← hgk _ (by omega)]; exact h4, h5⟩
    | _ => trivial
  refine ⟨⟨Rn.le_refl ρ, by rw [hw]; simp, ?_, fun _ _ x => .inl x, fun i r x => by rw [hbs]; exact x, h1, h2, h3⟩, ⟨?_, ?_, ?_, ?_, ?_, ?_, ?_, ?_, ?_⟩⟩
  · intro x hx hro
    refine hold x fun e2 => ?_
    obtain ⟨r, hr'⟩ := hro id loc hρ e2.symm
    rw [hi] at hr'; cases hr'
  · rw [hbs]; exact hr.dom
  · rw [hbs, hnx]; exact hr.lt
  · intro i l2 hl; rw [hw]; simp only [Array.size_setIfInBounds]; exact hr.inb i l2 hl
  · rw [hbs]
    intro j b lj hb hl hρj
    have hb0 := hr.blk j b lj hb (hlvo j b hl) hρj
    by_cases eb : lj.blk = loc.blk
    · -- it is of the class
      rcases hr.apart j id b _ lj loc hb hi (hlvo j b hl) hlv hρj hρ eb with x | ⟨x, y⟩
      · subst x
        rw [hi] at hb; injection hb with hb; subst hb
        obtain ⟨g1, cs2, fz2, g3, g4, g5, g6, g7, g8⟩ := hb0
        rw [eb, hblk] at g3; injection g3 with g3; injection g3 with x y z
        subst x; subst y
        refine ⟨g1, cs, f', by rw [eb]; exact hnew, g4, g5, g6, g7, fun a2 l2 h4 => ?_⟩
        rw [hgs'] at h4; injection h4 with h4; injection h4 with _ _ h4; cases h4
      · cases b with
        | cells c2 e2 k2 =>
          simp only [clsOf] at y
          subst y
          obtain ⟨g1, cs2, fz2, g3, g4, g5, g6, g7, g8⟩ := hb0
          rw [eb, hblk] at g3; injection g3 with g3; injection g3 with x y z
          subst x; subst y
          refine ⟨g1, cs, f', by rw [eb]; exact hnew, g4, g5, g6, g7, fun a2 l2 h4 => ?_⟩
          rw [hgs'] at h4; injection h4 with h4; injection h4 with _ _ h4; cases h4
        | _ => simp [clsOf] at x
    · refine hb0.mono P (Rn.le_refl ρ) (hold _ eb) ?_
      intro c2 e2 k2 a2 l2 hbc hk2
      by_cases ek : k2 = k
      · subst ek; rw [hgs'] at hk2; injection hk2 with hk2; injection hk2 with _ _ hk2; cases hk2
      · exact ⟨a2, l2, by rw [← hgk _ (by omega)]; exact hk2⟩
  · rw [hbs]; exact fun i j b c2 li lj x y p q => hr.apart i j b c2 li lj x y (hlvo _ _ p) (hlvo _ _ q)
  · rw [hbs]
    intro k2 a2 l2 f2 b c2 la ll h4
    by_cases ek : k2 = k
    · subst ek
      rw [hgs'] at h4; injection h4 with h4; injection h4 with x y _
      subst x; subst y
      exact hr.chain k2 a l fz b c2 la ll hs
    · rw [hgk _ (by omega)] at h4
      exact hr.chain k2 a2 l2 f2 b c2 la ll h4
  · rw [hbs, hnx]; exact hr.cls
  · rw [hgs, hnx]; exact hr.gs
  · rw [hbs]
    intro i c2 e2 k2 l2 hc hρi
    have hold' := hr.cell i c2 e2 k2 l2 hc hρi
    by_cases z : l2.blk = loc.blk
    · rw [z, hnew]; exact ⟨_, _, _, rfl⟩
    · rw [hold _ z]; exact hold'
end Go.Ev
/- append: a block that is grown in its place, or anew. -/
namespace Go.Ev
open Go
variable {P : Program}

/-- one more block of a class, in new memory -/
theorem HR.anew {ρ : Rn} {h h' : H} {w w' : World} (hr : HR P ρ h w) {id tot k x a l : Nat} {c : List V} {e : Nat} {o : Obj}
    (hn : h.bs.get id = none) (hlt : id < h'.next) (hnx : h.next ≤ h'.next) (hbs : h'.bs = h.bs.set id (.cells c e (k + 1))) (hgs : h'.gs = h.gs)
    (hs : h.cl.get (k + 1) = some (.mk a l false)) (hx : x = id ∨ x = a ∨ x = l) (hkn : k + 1 ≤ h'.next)
    (hcl : h'.cl = h.cl.set (k + 1) (.mk x id false))
    (hw : w'.heap = w.heap.push o) (h1 : w'.os = w.os) (h2 : w'.output = w.output) (h3 : w'.tape = w.tape)
    (hb : BR P (ρ.add id ⟨w.heap.size, 0, tot⟩) h'.cl (.cells c e (k + 1)) ⟨w.heap.size, 0, tot⟩ w') :
    Ext ρ h w (ρ.add id ⟨w.heap.size, 0, tot⟩) h' w' ∧ HR P (ρ.add id ⟨w.heap.size, 0, tot⟩) h' w' := by
  have hle := hr.le_add hn ⟨w.heap.size, 0, tot⟩
  have hget : ∀ i, i ≠ id → h'.bs.get i = h.bs.get i := fun i hi => by rw [hbs, T.get_set_ne _ _ hi]
  have hgid : h'.bs.get id = some (.cells c e (k + 1)) := by rw [hbs, T.get_set_same]
  have hold : ∀ c, c < w.heap.size → w'.heap[c]? = w.heap[c]? := fun c hc => by rw [hw, Array.getElem?_push, if_neg (by omega)]
  have hne : ∀ i c, h.bs.get i = some c → i ≠ id := fun i c hi e => by subst e; rw [hn] at hi; cases hi
  have hgk : ∀ j, j ≠ k + 1 → h'.cl.get j = h.cl.get j := fun j hj => by rw [hcl, T.get_set_ne _ _ hj]
  have hgs' : h'.cl.get (k + 1) = some (.mk x id false) := by rw [hcl, T.get_set_same]
  have hlv : ∀ i b, i ≠ id → Lv h'.cl i b → Lv h.cl i b := by
    intro i b hi hl
    cases b with
    | cells c2 e2 k2 =>
      cases k2 with
      | zero => trivial
      | succ k2 =>
        obtain ⟨a2, l2, f2, h4, h5⟩ := hl
        by_cases ek : k2 = k
        · subst ek
          rw [hgs'] at h4; injection h4 with h4; injection h4 with p q _
          subst p; subst q
          refine ⟨a, l, false, hs, ?_⟩
          rcases h5 with h5 | h5
          · rcases hx with p | p
            · exact absurd (h5.trans p) hi
            · exact h5 ▸ p
          · exact absurd h5 hi
        · exact ⟨a2, l2, f2, by rw [← hgk _ (by omega)]; exact h4, h5⟩
    | _ => trivial
  refine ⟨⟨hle, by rw [hw]; simp, fun c hc _ => hold c hc, ?_, ?_, h1, h2, h3⟩, ⟨?_, ?_, ?_, ?_, ?_, ?_, ?_, ?_, ?_⟩⟩
  · intro i loc hi
    by_cases e : i = id
    · subst e; rw [Rn.add_same] at hi; injection hi with hi; subst hi; exact .inr (.inl (Nat.le_refl _))
    · rw [Rn.add_ne e] at hi; exact .inl hi
  · intro i r hi; rw [hget i (hne i _ hi)]; exact hi
  · intro i
    by_cases e : i = id
    · subst e; exact ⟨fun _ => ⟨_, hgid⟩, fun _ => ⟨_, Rn.add_same _ _ _⟩⟩
    · rw [Rn.add_ne e, hget i e]; exact hr.dom i
  · intro i c hi
    by_cases e : i = id
    · subst e; exact hlt
    · rw [hget i e] at hi; exact Nat.lt_of_lt_of_le (hr.lt i c hi) hnx
  · intro i loc hi
    rw [hw]; simp only [Array.size_push]
    by_cases e : i = id
    · subst e; rw [Rn.add_same] at hi; injection hi with hi; subst hi; exact Nat.lt_succ_self _
    · rw [Rn.add_ne e] at hi; exact Nat.lt_succ_of_lt (hr.inb i loc hi)
  · intro i b loc hi hl hρ
    by_cases e : i = id
    · subst e
      rw [Rn.add_same] at hρ; injection hρ with hρ; subst hρ
      rw [hgid] at hi; injection hi with hi; subst hi
      exact hb
    · rw [Rn.add_ne e] at hρ
      rw [hget i e] at hi
      refine (hr.blk i b loc hi (hlv i b e hl) hρ).mono P hle (hold _ (hr.inb i loc hρ)) ?_
      intro c' e' k2 a2 l2 hc hk
      by_cases ek : k2 = k
      · subst ek; exact ⟨a, l, hs⟩
      · exact ⟨a2, l2, by rw [← hgk _ (by omega)]; exact hk⟩
  · intro i j bi bj li lj hi hj hli hlj hρi hρj hb'
    by_cases ei : i = id
    · by_cases ej : j = id
      · exact .inl (ei.trans ej.symm)
      · subst ei
        rw [Rn.add_same] at hρi; injection hρi with hρi; subst hρi
        rw [Rn.add_ne ej] at hρj
        have := hr.inb j lj hρj
        simp only at hb'; omega
    · by_cases ej : j = id
      · subst ej
        rw [Rn.add_same] at hρj; injection hρj with hρj; subst hρj
        rw [Rn.add_ne ei] at hρi
        have := hr.inb i li hρi
        simp only at hb'; omega
      · rw [Rn.add_ne ei] at hρi
        rw [Rn.add_ne ej] at hρj
        rw [hget i ei] at hi
        rw [hget j ej] at hj
        exact hr.apart i j bi bj li lj hi hj (hlv i _ ei hli) (hlv j _ ej hlj) hρi hρj hb'
  · intro k2 a2 l2 f2 bi bj la ll hk ha hl hca hcl' hρa hρl hbb
    by_cases ek : k2 = k
    · subst ek
      rw [hgs'] at hk; injection hk with hk; injection hk with p q _
      subst p; subst q
      rw [Rn.add_same] at hρl; injection hρl with hρl; subst hρl
      by_cases ea : x = id
      · subst ea
        rw [Rn.add_same] at hρa; injection hρa with hρa; subst hρa
        rw [ha] at hl; injection hl with hl; subst hl
        exact Nat.le_refl _
      · rw [Rn.add_ne ea] at hρa
        have := hr.inb _ la hρa
        simp only at hbb; omega
    · have ea : a2 ≠ id := fun e => by
        subst e; rw [hgid] at ha; injection ha with ha; subst ha
        simp only [clsOf] at hca; omega
      have el : l2 ≠ id := fun e => by
        subst e; rw [hgid] at hl; injection hl with hl; subst hl
        simp only [clsOf] at hcl'; omega
      rw [Rn.add_ne ea] at hρa
      rw [Rn.add_ne el] at hρl
      rw [hget a2 ea] at ha
      rw [hget l2 el] at hl
      rw [hgk _ (by omega)] at hk
      exact hr.chain k2 a2 l2 f2 bi bj la ll hk ha hl hca hcl' hρa hρl hbb
  · intro i b hi
    by_cases e : i = id
    · subst e
      rw [hgid] at hi; injection hi with hi; subst hi
      exact hkn
    · rw [hget i e] at hi; exact Nat.le_trans (hr.cls i b hi) hnx
  · rw [hgs]; exact Nat.le_trans hr.gs hnx
  · intro i c2 e2 k2 loc hi hρ
    by_cases q : i = id
    · subst q
      rw [Rn.add_same] at hρ; injection hρ with hρ; subst hρ
      obtain ⟨_, cs, fz, h3, _⟩ := hb
      exact ⟨cs, e, fz, h3⟩
    · rw [Rn.add_ne q] at hρ
      rw [hget i q] at hi
      rw [hold _ (hr.inb i loc hρ)]
      exact hr.cell i c2 e2 k2 loc hi hρ

/-- one more block of a class, in the memory of one of it -/
theorem HR.grow {ρ : Rn} {h h' : H} {w w' : World} (hr : HR P ρ h w) {id k x b0 a l : Nat} {c c' : List V} {e : Nat} {loc lc : Loc} {cs cs' : Array Value} {fz : Nat × Nat}
    (hn : h.bs.get id = none) (hlt : id < h'.next) (hnx : h.next ≤ h'.next) (hbs : h'.bs = h.bs.set id (.cells c' e (k + 1))) (hgs : h'.gs = h.gs)
    (hb0 : h.bs.get b0 = some (.cells c e (k + 1))) (hs : h.cl.get (k + 1) = some (.mk a l false)) (hal : b0 = a ∨ b0 = l) (hρ : ρ b0 = some loc)
    (hx : x = id ∨ x = b0) (hcl : h'.cl = h.cl.set (k + 1) (.mk x id false))
    (hblk : w.heap[loc.blk]? = some (.cells cs e fz)) (hfz : cs.size ≤ fz.1 ∨ fz.2 ≤ fz.1)
    (hw : w'.heap = w.heap.setIfInBounds loc.blk (.cells cs' e fz)) (hsz : cs'.size = cs.size)
    (hlb : lc.blk = loc.blk) (hkeep : x = b0 → CellsAt ρ cs' loc.sh c ∧ loc.sh + c.length ≤ lc.sh + c'.length)
    (hc1 : allOne c' = true) (hc2 : CellsAt ρ cs' lc.sh c') (hc3 : lc.sh + c'.length ≤ cs.size) (hc4 : c'.length ≤ lc.tot * P.cellsOf e) (hc5 : lc.sh + lc.tot * P.cellsOf e ≤ cs.size)
    (h1 : w'.os = w.os) (h2 : w'.output = w.output) (h3 : w'.tape = w.tape) :
    Ext ρ h w (ρ.add id lc) h' w' ∧ HR P (ρ.add id lc) h' w' := by
  have hle := hr.le_add hn lc
  have hget : ∀ i, i ≠ id → h'.bs.get i = h.bs.get i := fun i hi => by rw [hbs, T.get_set_ne _ _ hi]
  have hgid : h'.bs.get id = some (.cells c' e (k + 1)) := by rw [hbs, T.get_set_same]
  have hin : loc.blk < w.heap.size := hr.inb _ _ hρ
  have hold : ∀ x, x ≠ loc.blk → w'.heap[x]? = w.heap[x]? := fun x hx => by rw [hw, Array.getElem?_setIfInBounds, if_neg (fun e => hx e.symm)]
  have hnew : w'.heap[loc.blk]? = some (.cells cs' e fz) := by rw [hw, Array.getElem?_setIfInBounds, if_pos rfl, if_pos hin]
  have hne : ∀ i c, h.bs.get i = some c → i ≠ id := fun i c hi e => by subst e; rw [hn] at hi; cases hi
  have hb0id : b0 ≠ id := hne _ _ hb0
  have hgk : ∀ j, j ≠ k + 1 → h'.cl.get j = h.cl.get j := fun j hj => by rw [hcl, T.get_set_ne _ _ hj]
  have hgs' : h'.cl.get (k + 1) = some (.mk x id false) := by rw [hcl, T.get_set_same]
  have hlv0 : Lv h.cl b0 (.cells c e (k + 1)) := ⟨a, l, false, hs, hal⟩
  -- of the class b0 alone is live beside the new one, if at all
  have hcls : ∀ i b, i ≠ id → Lv h'.cl i b → clsOf b = k + 1 → i = b0 ∧ x = b0 := by
    intro i b hi hl hk
    cases b with
    | cells c2 e2 k2 =>
      simp only [clsOf] at hk; subst hk
      obtain ⟨a2, l2, f2, h4, h5⟩ := hl
      rw [hgs'] at h4; injection h4 with h4; injection h4 with p q _
      subst p; subst q
      rcases h5 with h5 | h5
      · rcases hx with p | p
        · exact absurd (h5.trans p) hi
        · exact ⟨h5.trans p, p⟩
      · exact absurd h5 hi
    | _ => simp [clsOf] at hk
  have hlv : ∀ i b, i ≠ id → Lv h'.cl i b → Lv h.cl i b := by
    intro i b hi hl
    by_cases ek : clsOf b = k + 1
    · obtain ⟨p, _⟩ := hcls i b hi hl ek
      cases b with
      | cells c2 e2 k2 => simp only [clsOf] at ek; subst ek; exact ⟨a, l, false, hs, p ▸ hal⟩
      | _ => simp [clsOf] at ek
    · exact hl.congr fun _ => (hgk _ ek).symm
  have hfar : ∀ j b lj, j ≠ id → h.bs.get j = some b → Lv h'.cl j b → ρ j = some lj → j ≠ b0 → lj.blk ≠ loc.blk := by
    intro j b lj hj hb hl hρj hjb e2
    rcases hr.apart j b0 b _ lj loc hb hb0 (hlv j b hj hl) hlv0 hρj hρ e2 with p | ⟨p, q⟩
    · exact hjb p
    · exact hjb (hcls j b hj hl q).1
  refine ⟨⟨hle, by rw [hw]; simp, ?_, ?_, ?_, h1, h2, h3⟩, ⟨?_, ?_, ?_, ?_, ?_, ?_, ?_, ?_, ?_⟩⟩
  · intro y hy hro
    refine hold y fun e2 => ?_
    obtain ⟨r, hr'⟩ := hro b0 loc hρ e2.symm
    rw [hb0] at hr'; cases hr'
  · intro i li hi
    by_cases e2 : i = id
    · subst e2; rw [Rn.add_same] at hi; injection hi with hi; subst hi
      exact .inr (.inr ⟨b0, loc, hρ, hlb.symm, fun r hr' => by rw [hb0] at hr'; cases hr'⟩)
    · rw [Rn.add_ne e2] at hi; exact .inl hi
  · intro i r hi; rw [hget i (hne i _ hi)]; exact hi
  · intro i
    by_cases e2 : i = id
    · subst e2; exact ⟨fun _ => ⟨_, hgid⟩, fun _ => ⟨_, Rn.add_same _ _ _⟩⟩
    · rw [Rn.add_ne e2, hget i e2]; exact hr.dom i
  · intro i b hi
    by_cases e2 : i = id
    · subst e2; exact hlt
    · rw [hget i e2] at hi; exact Nat.lt_of_lt_of_le (hr.lt i b hi) hnx
  · intro i li hi
    rw [hw]; simp only [Array.size_setIfInBounds]
    by_cases e2 : i = id
    · subst e2; rw [Rn.add_same] at hi; injection hi with hi; subst hi; rw [hlb]; exact hin
    · rw [Rn.add_ne e2] at hi; exact hr.inb i li hi
  · intro i b li hi hl hρi
    by_cases e2 : i = id
    · subst e2
      rw [Rn.add_same] at hρi; injection hρi with hρi; subst hρi
      rw [hgid] at hi; injection hi with hi; subst hi
      exact ⟨hc1, cs', fz, by rw [hlb]; exact hnew, by rw [hsz]; exact hc3, hc4, by rw [hsz]; exact hc5, hc2.mono hle, fun _ _ _ => by rw [hsz]; exact hfz⟩
    · rw [Rn.add_ne e2] at hρi
      rw [hget i e2] at hi
      by_cases e3 : i = b0
      · subst e3
        rw [hb0] at hi; injection hi with hi; subst hi
        rw [hρ] at hρi; injection hρi with hρi; subst hρi
        obtain ⟨_, hxb⟩ := hcls i _ e2 hl rfl
        obtain ⟨g1, cs2, fz2, g3, g4, g5, g6, g7, g8⟩ := hr.blk _ _ _ hb0 hlv0 hρ
        rw [hblk] at g3; injection g3 with g3; injection g3 with p q r
        subst p; subst r
        exact ⟨g1, cs', fz, hnew, by rw [hsz]; exact g4, g5, by rw [hsz]; exact g6, (hkeep hxb).1.mono hle, fun _ _ _ => by rw [hsz]; exact hfz⟩
      · refine (hr.blk i b li hi (hlv i b e2 hl) hρi).mono P hle (hold _ (hfar i b li e2 hi hl hρi e3)) ?_
        intro c2 e2' k2 a2 l2 hbc hk2
        by_cases ek : k2 = k
        · subst ek; exact ⟨a, l, hs⟩
        · exact ⟨a2, l2, by rw [← hgk _ (by omega)]; exact hk2⟩
  · intro i j bi bj li lj hi hj hli hlj hρi hρj hb'
    by_cases ei : i = id
    · by_cases ej : j = id
      · exact .inl (ei.trans ej.symm)
      · subst ei
        rw [Rn.add_same] at hρi; injection hρi with hρi; subst hρi
        rw [Rn.add_ne ej] at hρj
        rw [hget j ej] at hj
        rw [hgid] at hi; injection hi with hi; subst hi
        by_cases e3 : j = b0
        · subst e3; rw [hb0] at hj; injection hj with hj; subst hj; exact .inr ⟨Nat.succ_pos _, rfl⟩
        · exact absurd (hb'.symm.trans hlb) (hfar j bj lj ej hj hlj hρj e3)
    · by_cases ej : j = id
      · subst ej
        rw [Rn.add_same] at hρj; injection hρj with hρj; subst hρj
        rw [Rn.add_ne ei] at hρi
        rw [hget i ei] at hi
        rw [hgid] at hj; injection hj with hj; subst hj
        by_cases e3 : i = b0
        · subst e3; rw [hb0] at hi; injection hi with hi; subst hi; exact .inr ⟨Nat.succ_pos _, rfl⟩
        · exact absurd (hb'.trans hlb) (hfar i bi li ei hi hli hρi e3)
      · rw [Rn.add_ne ei] at hρi
        rw [Rn.add_ne ej] at hρj
        rw [hget i ei] at hi
        rw [hget j ej] at hj
        exact hr.apart i j bi bj li lj hi hj (hlv i _ ei hli) (hlv j _ ej hlj) hρi hρj hb'
  · intro k2 a2 l2 f2 bi bj la ll hk ha hl hca hcl' hρa hρl hbb
    by_cases ek : k2 = k
    · subst ek
      rw [hgs'] at hk; injection hk with hk; injection hk with p q _
      subst p; subst q
      rw [Rn.add_same] at hρl; injection hρl with hρl; subst hρl
      rw [hgid] at hl; injection hl with hl; subst hl
      by_cases ea : x = id
      · subst ea
        rw [Rn.add_same] at hρa; injection hρa with hρa; subst hρa
        rw [hgid] at ha; injection ha with ha; subst ha
        exact Nat.le_refl _
      · have exb := hx.resolve_left ea
        rw [Rn.add_ne ea, exb, hρ] at hρa; injection hρa with hρa; subst hρa
        rw [hget _ ea, exb, hb0] at ha; injection ha with ha; subst ha
        exact (hkeep exb).2
    · have ea : a2 ≠ id := fun e => by
        subst e; rw [hgid] at ha; injection ha with ha; subst ha
        simp only [clsOf] at hca; omega
      have el : l2 ≠ id := fun e => by
        subst e; rw [hgid] at hl; injection hl with hl; subst hl
        simp only [clsOf] at hcl'; omega
      rw [Rn.add_ne ea] at hρa
      rw [Rn.add_ne el] at hρl
      rw [hget a2 ea] at ha
      rw [hget l2 el] at hl
      rw [hgk _ (by omega)] at hk
      exact hr.chain k2 a2 l2 f2 bi bj la ll hk ha hl hca hcl' hρa hρl hbb
  · intro i b hi
    by_cases e2 : i = id
    · subst e2
      rw [hgid] at hi; injection hi with hi; subst hi
      have := hr.cls b0 _ hb0
      exact Nat.le_trans this hnx
    · rw [hget i e2] at hi; exact Nat.le_trans (hr.cls i b hi) hnx
  · rw [hgs]; exact Nat.le_trans hr.gs hnx
  · intro i c2 e2 k2 li hi hρi
    by_cases q : i = id
    · subst q
      rw [Rn.add_same] at hρi; injection hρi with hρi; subst hρi
      rw [hlb, hnew]; exact ⟨_, _, _, rfl⟩
    · rw [Rn.add_ne q] at hρi
      rw [hget i q] at hi
      have hold' := hr.cell i c2 e2 k2 li hi hρi
      by_cases z : li.blk = loc.blk
      · rw [z, hnew]; exact ⟨_, _, _, rfl⟩
      · rw [hold _ z]; exact hold'
end Go.Ev
