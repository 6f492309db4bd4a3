/- THE EVALUATOR, part 3: a run of it, asked of the kernel, shows what the program comes to. Nothing of a program stands here. -/
import Derived.Test.YtjimkmobdigfiaaGreatDoorEv1
set_option linter.unusedSimpArgs false
set_option linter.unusedVariables false
/- Stores. -/
namespace Go.Ev
open Go
variable {P : Program} {w : World} {ρ : Rn}

/-- values laid over cells -/
def lay : Array Value → Nat → List Value → Array Value
  | cs, _, [] => cs
  | cs, o, v :: vs => lay (cs.setIfInBounds o v) (o + 1) vs
theorem lay_size : ∀ (vs : List Value) (cs : Array Value) (o : Nat), (lay cs o vs).size = cs.size
  | [], _, _ => rfl
  | v :: vs, cs, o => by rw [lay, lay_size]; simp
theorem lay_get : ∀ (vs : List Value) (cs : Array Value) (o j : Nat), o + vs.length ≤ cs.size → (lay cs o vs)[j]? = if o ≤ j ∧ j < o + vs.length then vs[j - o]? else cs[j]?
  | [], cs, o, j, _ => by rw [lay, if_neg (by simp only [List.length_nil]; omega)]
  | v :: vs, cs, o, j, h => by
    simp only [List.length_cons] at h
    rw [lay, lay_get vs _ _ _ (by simp; omega)]
    by_cases h1 : o + 1 ≤ j ∧ j < o + 1 + vs.length
    · rw [if_pos h1, if_pos (by simp; omega)]
      have : j - o = (j - (o + 1)) + 1 := by omega
      rw [this]; rfl
    · rw [if_neg h1, Array.getElem?_setIfInBounds]
      by_cases h2 : o = j
      · subst h2; rw [if_pos rfl, if_pos (by omega), if_pos (by simp)]; simp
      · rw [if_neg h2, if_neg (by simp; omega)]
theorem over_get {l xs r : List V} {o : Nat} (h : over l o xs = some r) (j : Nat) : r[j]? = if o ≤ j ∧ j < o + xs.length then xs[j - o]? else l[j]? := by
  obtain ⟨h1, rfl⟩ := over_some h
  have hlen : (l.take o).length = o := by rw [List.length_take]; omega
  rcases Nat.lt_or_ge j o with h2 | h2
  · rw [if_neg (by omega), List.getElem?_append_left (by omega), List.getElem?_take, if_pos h2]
  · rw [List.getElem?_append_right (by omega), hlen]
    rcases Nat.lt_or_ge (j - o) xs.length with h3 | h3
    · rw [if_pos (by omega), List.getElem?_append_left h3]
    · rw [if_neg (by omega), List.getElem?_append_right h3, List.getElem?_drop]
      congr 1; omega
theorem CellsAt.lay {cs : Array Value} {sh o : Nat} {c xs r : List V} {xs' : List Value} (h : CellsAt ρ cs sh c) (hv : over c o xs = some r) (hx : VRs ρ xs xs') (hin : sh + c.length ≤ cs.size) :
    CellsAt ρ (lay cs (sh + o) xs') sh r := by
  intro j v hj
  have hle := (over_some hv).1
  rw [over_get hv] at hj
  rw [lay_get _ _ _ _ (by rw [← hx.length]; omega), ← hx.length]
  by_cases h1 : o ≤ j ∧ j < o + xs.length
  · rw [if_pos h1] at hj
    rw [if_pos (by omega)]
    obtain ⟨v', a, b⟩ := hx.get hj
    refine ⟨v', ?_, b⟩
    have : sh + j - (sh + o) = j - o := by omega
    rw [this]; exact a
  · rw [if_neg h1] at hj
    rw [if_neg (by omega)]
    exact h j v hj

theorem run_store {b e o : Nat} {cs : Array Value} {fz : Nat × Nat} {v : Value} (h : w.heap[b]? = some (.cells cs e fz)) (ho : o < cs.size) (hf : (decide (fz.1 ≤ o) && decide (o < fz.2)) = false) (h1 : v.oneCell' = true) :
    (store ⟨b, o, none⟩ v).run P w = .ok () { w with heap := w.heap.setIfInBounds b (.cells (cs.setIfInBounds o v) e fz) } := by
  have hc : w.cell? ⟨b, o, none⟩ = some cs[o] := by rw [cell_at h]; simp [ho]
  have hz : w.frozen? ⟨b, o, none⟩ = false := by simp only [World.frozen?, h]; exact hf
  have hset : w.setCell ⟨b, o, none⟩ v = { w with heap := w.heap.setIfInBounds b (.cells (cs.setIfInBounds o v) e fz) } := by
    have hb : b < w.heap.size := by
      rcases Nat.lt_or_ge b w.heap.size with q | q
      · exact q
      · rw [Array.getElem?_eq_none q] at h; cases h
    have hg : w.heap[b] = .cells cs e fz := by
      have := h; rw [Array.getElem?_eq_getElem hb] at this; injection this
    simp only [World.setCell]
    congr 1
    apply Array.ext_getElem?
    intro i
    rw [Array.getElem?_modify, Array.getElem?_setIfInBounds]
    by_cases hi : b = i
    · subst hi; rw [if_pos rfl, if_pos rfl, if_pos hb, h]; rfl
    · rw [if_neg hi, if_neg hi]
  rw [← hset]
  cases v <;> first | (simp [Value.oneCell'] at h1; done) | simp [store, Sem.run, hc, hz]

theorem run_storeCells {b e : Nat} {fz : Nat × Nat} : ∀ (vs : List Value) (o i : Nat) (cs : Array Value) (w : World), w.heap[b]? = some (.cells cs e fz) → o + i + vs.length ≤ cs.size →
    (∀ j, j < cs.size → (decide (fz.1 ≤ j) && decide (j < fz.2)) = false) → (∀ v ∈ vs, v.oneCell' = true) →
    (storeCells ⟨b, o, none⟩ vs i).run P w = .ok () { w with heap := w.heap.setIfInBounds b (.cells (lay cs (o + i) vs) e fz) }
  | [], o, i, cs, w, h, _, _, _ => by
    have : w.heap.setIfInBounds b (.cells cs e fz) = w.heap := by
      apply Array.ext_getElem?
      intro j
      rw [Array.getElem?_setIfInBounds]
      by_cases hj : b = j
      · subst hj
        rw [if_pos rfl]
        split
        · exact h.symm
        · rename_i hb
          rw [Array.getElem?_eq_none (by omega)]
      · rw [if_neg hj]
    simp only [storeCells, lay, this]
    rfl
  | v :: vs, o, i, cs, w, h, hl, hf, h1 => by
    simp only [List.length_cons] at hl
    have hb : b < w.heap.size := by
      rcases Nat.lt_or_ge b w.heap.size with q | q
      · exact q
      · rw [Array.getElem?_eq_none q] at h; cases h
    have hst := run_store (P := P) (o := o + i) (v := v) h (by omega) (hf _ (by omega)) (h1 v (List.mem_cons_self ..))
    have ih := run_storeCells (b := b) (e := e) (fz := fz) vs o (i + 1) (cs.setIfInBounds (o + i) v) { w with heap := w.heap.setIfInBounds b (.cells (cs.setIfInBounds (o + i) v) e fz) }
      (by simp [hb]) (by simp; omega) (fun j hj => hf j (by simpa using hj)) (fun x hx => h1 x (List.mem_cons_of_mem _ hx))
    simp only [storeCells, Sem.run_bind, add_off, hst, Result.andThen_ok, ih]
    congr 1
    simp only [World.mk.injEq, and_true, true_and]
    rw [lay]
    apply Array.ext_getElem?
    intro j
    simp only [Array.getElem?_setIfInBounds, Array.size_setIfInBounds]
    by_cases hj : b = j
    · subst hj; simp [hb, Nat.add_assoc]
    · simp [hj]

theorem own_some {id k : Nat} {h h' : H} {u : Unit} (e : own id k h = some (u, h')) : h'.next = h.next ∧ h'.gs = h.gs ∧ h'.bs = h.bs ∧ (∀ j, j ≠ k → h'.cl.get j = h.cl.get j) ∧
    (0 < k → (∃ a l, h.cl.get k = some (.mk a l false)) ∧ h'.cl.get k = some (.mk id id false)) := by
  cases k with
  | zero =>
    simp only [own] at e
    obtain ⟨_, rfl⟩ := pure_some e
    exact ⟨rfl, rfl, rfl, fun _ _ => rfl, fun x => absurd x (Nat.lt_irrefl 0)⟩
  | succ k =>
    simp only [own] at e
    obtain ⟨s, h1, e1, e2⟩ := bind_some e
    obtain ⟨rfl, hs⟩ := getC_some e1
    obtain ⟨a, l, fz⟩ := s
    cases fz with
    | true => cases e2
    | false =>
      obtain ⟨n, gs, wr, bs, cl⟩ := h1
      simp only [setC] at e2
      injection e2 with e2; injection e2 with _ e2; subst e2
      exact ⟨rfl, rfl, rfl, fun j hj => T.get_set_ne _ _ hj, fun _ => ⟨⟨a, l, hs⟩, T.get_set_same _ _ _⟩⟩
theorem updB_some {id : Nat} {f : B → Option B} {h h' : H} {u : Unit} (e : updB id f h = some (u, h')) :
    ∃ b b', h.bs.get id = some b ∧ f b = some b' ∧ h'.next = h.next ∧ h'.gs = h.gs ∧ h'.bs = h.bs.set id b' ∧ h'.cl = h.cl := by
  obtain ⟨n, gs, wr, bs, cl⟩ := h
  simp only [updB] at e
  split at e
  · rename_i b hb
    split at e
    · rename_i b' hb'
      injection e with e; injection e with _ e; subst e
      exact ⟨b, b', hb, hb', rfl, rfl, rfl, rfl⟩
    · cases e
  · cases e
theorem putCells_some {id : Nat} {c : List V} {h h' : H} {u : Unit} (e : putCells id c h = some (u, h')) :
    ∃ c0 e k, h.bs.get id = some (.cells c0 e k) ∧ h'.next = h.next ∧ h'.gs = h.gs ∧ h'.bs = h.bs.set id (.cells c e k) ∧ h'.cl = h.cl := by
  obtain ⟨b, b', h1, h2, h3⟩ := updB_some e
  cases b with
  | cells c0 e0 k => simp only at h2; injection h2 with h2; subst h2; exact ⟨c0, e0, k, h1, h3⟩
  | _ => simp at h2

theorem VRs.one {l : List V} {l' : List Value} (h : VRs ρ l l') (h1 : allOne l = true) : ∀ v ∈ l', v.oneCell' = true := by
  intro v hv
  obtain ⟨i, hi, rfl⟩ := List.getElem_of_mem hv
  have hi' : i < l.length := by rw [h.length]; exact hi
  obtain ⟨v', a, b⟩ := h.get (List.getElem?_eq_getElem hi')
  rw [List.getElem?_eq_getElem hi] at a
  injection a with a; subst a
  exact b.one ((allOne_iff l).1 h1 _ (List.getElem_mem hi'))

/-- CELLS STORED: at one place of a block -/
theorem put_sound {b e k o : Nat} {c c' xs : List V} {xs' : List Value} {loc : Loc} {h h1 h2 h' : H} {u u' : Unit} (hr : HR P ρ h w) (hc : cellsOf b h = some ((c, e, k), h1)) (ho : own b k h1 = some (u, h2))
    (hv : over c o xs = some c') (hp : putCells b c' h2 = some (u', h')) (hρ : ρ b = some loc) (hx : VRs ρ xs xs') (hx1 : allOne xs = true) :
    ∃ w', (storeCells ⟨loc.blk, loc.sh + o, none⟩ xs').run P w = .ok () w' ∧ Ext ρ h w ρ h' w' ∧ HR P ρ h' w' := by
  obtain ⟨rfl, b0, hb, hlv, hcb, hcs⟩ := cellsOf_some hc
  obtain ⟨o1, o2, o3, o4, o5⟩ := own_some ho
  obtain ⟨c0, e0, k0, p1, p2, p3, p4, p5⟩ := putCells_some hp
  rw [o3, hb] at p1
  injection p1 with p1
  subst p1
  have hcs' := hcs.resolve_right (fun q => by simp at q)
  injection hcs' with q1 q2 q3; subst q1; subst q2; subst q3
  have hlen := over_length hv
  have hle := (over_some hv).1
  have h1' : allOne c' = true := by
    refine over_allOne hv ?_ hx1
    have := hr.blk b _ loc hb hlv hρ
    cases k0 with
    | zero => exact this.2.1
    | succ k => exact this.1
  have hin : loc.blk < w.heap.size := hr.inb _ _ hρ
  -- the block of the world
  obtain ⟨cs, fz, hw, hsz, hca, hfz, hmk⟩ : ∃ cs fz, w.heap[loc.blk]? = some (.cells cs e0 fz) ∧ loc.sh + c0.length ≤ cs.size ∧ CellsAt ρ cs loc.sh c0 ∧ (∀ j, j < cs.size → (decide (fz.1 ≤ j) && decide (j < fz.2)) = false) ∧
      (BR P ρ h'.cl (.cells c' e0 k0) loc { w with heap := w.heap.setIfInBounds loc.blk (.cells (lay cs (loc.sh + o) xs') e0 fz) }) := by
    have hbr := hr.blk b _ loc hb hlv hρ
    cases k0 with
    | zero =>
      obtain ⟨g1, g2, cs, g3, g4, g5⟩ := hbr
      have g5' : CellsAt ρ cs loc.sh c0 := by rw [g1]; exact g5
      have hsz : loc.sh + c0.length ≤ cs.size := by omega
      refine ⟨cs, (0, 0), g3, hsz, g5', fun j _ => by simp, ?_⟩
      refine ⟨g1, h1', lay cs (loc.sh + o) xs', by simp [hin], by rw [lay_size, hlen]; exact g4, ?_⟩
      have := g5'.lay hv hx hsz
      rw [g1] at this ⊢; exact this
    | succ k =>
      obtain ⟨g1, cs, fz, g3, g4, g5, g6, g7, g8⟩ := hbr
      obtain ⟨⟨a, l, hal⟩, hcl⟩ := o5 (Nat.succ_pos k)
      have hf := g8 a l hal
      refine ⟨cs, fz, g3, g4, g7, fun j hj => ?_, ?_⟩
      · simp only [Bool.and_eq_false_iff, decide_eq_false_iff_not]; omega
      · refine ⟨h1', lay cs (loc.sh + o) xs', fz, by simp [hin], by rw [lay_size, hlen]; exact g4, by rw [hlen]; exact g5, by rw [lay_size]; exact g6, g7.lay hv hx g4, fun _ _ _ => by rw [lay_size]; exact hf⟩
  refine ⟨_, run_storeCells xs' (loc.sh + o) 0 cs w hw (by rw [← hx.length]; omega) hfz (hx.one hx1), ?_⟩
  refine hr.upd (b := .cells c0 e0 k0) (b' := .cells c' e0 k0) hb hlv hρ rfl (fun r => by simp) (p2.trans o1) (p3.trans o2) (by rw [p4, o3]) ?_ ?_ rfl rfl rfl rfl (fun _ => ⟨_, _, _, rfl⟩) hmk
  · intro j hj; rw [p5]; exact o4 j hj
  · intro hp; rw [p5]; exact ⟨false, (o5 hp).2⟩

theorem storeV_sound {t b o : Nat} {v a : V} {v' a' : Value} {h h' : H} {u : Unit} (hr : HR P ρ h w) (ha : a = .ptr b o) (hva : VR ρ a a') (hv : VR ρ v v') (e : storeV P t b o v h = some (u, h')) :
    ∃ w', (Instr.storeAt t a' v').run P w = .ok () w' ∧ Ext ρ h w ρ h' w' ∧ HR P ρ h' w' := by
  subst ha
  cases hva with
  | ptr _ _ loc hρ =>
    simp only [storeV] at e
    generalize hl : V.cells v = x at e
    cases x with
    | none => cases e
    | some l =>
      simp only at e
      obtain ⟨l', c0, vz, oz⟩ := cells_sound hl hv
      generalize hn : szOf P t = x at e
      cases x with
      | none => cases e
      | some n =>
        simp only at e
        generalize hs : Nat.beq (llen l) n = x at e
        cases x with
        | false => cases e
        | true =>
          simp only at e
          rw [beq_nat, llen_eq] at hs
          obtain ⟨y, h1, e1, e2⟩ := bind_some e
          obtain ⟨c, ee, k⟩ := y
          obtain ⟨u2, h2, e3, e4⟩ := bind_some e2
          generalize hc' : over c o l = x at e4
          cases x with
          | none => cases e4
          | some c' =>
            obtain ⟨w', x, y, z⟩ := put_sound hr e1 e3 hc' e4 hρ vz oz
            refine ⟨w', ?_, y, z⟩
            have hlen : l'.length = n := by rw [← vz.length]; exact hs
            simp only [Instr.storeAt, Instr.sureAddr, Sem.run_bind, Sem.run_pure, Result.andThen_ok, storeVar, r_size hn, c0]
            have : ¬ (l'.toArray.size ≠ n) := by simp [hlen]
            simp only [this, if_false, Sem.run_pure, Result.andThen_ok]
            exact x
end Go.Ev
/- Maps that are written. -/
namespace Go.Ev
open Go
variable {P : Program} {w : World} {ρ : Rn}

theorem mapNe (es : Array MapEntry) (n : Nat) : ∀ c e f, Obj.map es n ≠ .cells c e f := by intro _ _ _ h; cases h
/-- an object that is no row of cells, written -/
theorem HR.obj {h h' : H} {w' : World} (hr : HR P ρ h w) {id : Nat} {b b' : B} {loc : Loc} {o : Obj} (hi : h.bs.get id = some b) (hρ : ρ id = some loc) (hc : clsOf b = 0) (hc' : clsOf b' = 0) (hlv : Lv h.cl id b) (hnr : ∀ r, b ≠ .ro r)
    (hnx : h'.next = h.next) (hgs : h'.gs = h.gs) (hbs : h'.bs = h.bs.set id b') (hcl : h'.cl = h.cl)
    (hw : w'.heap = w.heap.setIfInBounds loc.blk o) (h1 : w'.os = w.os) (h2 : w'.output = w.output) (h3 : w'.tape = w.tape) (hb : BR P ρ h.cl b' loc w') (hkb : b.isObj = true := by rfl) : Ext ρ h w ρ h' w' ∧ HR P ρ h' w' :=
  hr.upd hi hlv hρ (hc'.trans hc.symm) hnr hnx hgs hbs (fun k _ => by rw [hcl]) (fun hp => absurd hp (by omega)) hw h1 h2 h3 (fun hq => absurd hq ((hr.blk id b loc hi hlv hρ).notC P hkb)) (by rw [hcl]; exact hb)

theorem r_set {r : Nat} {o o' : Obj} (h : w.heap[r]? = some o) (hc : ∀ c e f, o ≠ .cells c e f) : (setObj r o').run P w = .ok () { w with heap := w.heap.setIfInBounds r o' } := by
  unfold setObj
  simp only [Sem.run, h]
theorem stays {a b : Value} : ∃ w1 k, (Instr.keyThatStays a b).run P w = .ok k w1 ∧ (k = a ∨ k = b) ∧ w1.heap = w.heap ∧ w1.os = w.os ∧ w1.output = w.output ∧ w1.tape = w.tape := by
  unfold Instr.keyThatStays
  split
  · exact ⟨w, b, rfl, .inr rfl, rfl, rfl, rfl, rfl⟩
  · simp only [Sem.run_bind]
    cases hc : (choose (.extern "map.whichKeyStays" 2)).run P w with
    | halt a w1 => simp [choose, Sem.run] at hc; split at hc <;> cases hc
    | ok n w1 =>
      have : w1.heap = w.heap ∧ w1.os = w.os ∧ w1.output = w.output ∧ w1.tape = w.tape := by
        simp only [choose, Sem.run] at hc
        split at hc <;> (injection hc with _ hc; subst hc; exact ⟨rfl, rfl, rfl, rfl⟩)
      refine ⟨w1, if n = 0 then b else a, ?_, ?_, this⟩
      · simp only [Result.andThen_ok]; rfl
      · by_cases h0 : n = 0
        · exact .inr (by rw [if_pos h0])
        · exact .inl (by rw [if_neg h0])

theorem EsR.snoc {es : List (V × V × Nat)} {es' : List MapEntry} (h : EsR ρ es es') {k v : V} {n : Nat} {e : MapEntry} (hk : VR ρ k e.key) (hv : VR ρ v e.val) (hn : e.born = n) : EsR ρ (es ++ [(k, v, n)]) (es' ++ [e]) := by
  induction h with
  | nil => exact .cons _ _ _ _ _ _ hk hv hn .nil
  | cons k0 v0 n0 e0 l l' a b c hs ih => exact .cons _ _ _ _ _ _ a b c ih

-- maps by numbers
theorem setS_cons (n : Nat) (v : V) (e : Nat × V) (l : List (Nat × V)) : setS n v (e :: l) = (match Nat.beq e.1 n with
    | true => (n, v) :: l
    | false => match Nat.ble n e.1 with
      | true => (n, v) :: e :: l
      | false => e :: setS n v l) := rfl
theorem setS_mem (n : Nat) (v : V) : ∀ (es : List (Nat × V)), es.Pairwise (fun a b => a.1 < b.1) → ∀ x, x ∈ setS n v es ↔ x = (n, v) ∨ (x ∈ es ∧ x.1 ≠ n) := by
  intro es
  induction es with
  | nil => intro _ x; simp [setS]
  | cons e l ih =>
    intro hp x
    rw [List.pairwise_cons] at hp
    rw [setS_cons]
    split
    · rename_i he
      rw [beq_nat] at he
      simp only [List.mem_cons]
      constructor
      · rintro (rfl | hx)
        · exact .inl rfl
        · exact .inr ⟨.inr hx, by have := hp.1 x hx; omega⟩
      · rintro (rfl | ⟨rfl | hx, hne⟩)
        · exact .inl rfl
        · exact absurd he hne
        · exact .inr hx
    · rename_i he
      rw [beq_nat_false] at he
      split
      · rename_i hb
        rw [ble_nat] at hb
        simp only [List.mem_cons]
        constructor
        · rintro (rfl | rfl | hx)
          · exact .inl rfl
          · exact .inr ⟨.inl rfl, he⟩
          · exact .inr ⟨.inr hx, by have := hp.1 x hx; omega⟩
        · rintro (rfl | ⟨rfl | hx, hne⟩)
          · exact .inl rfl
          · exact .inr (.inl rfl)
          · exact .inr (.inr hx)
      · simp only [List.mem_cons, ih hp.2]
        constructor
        · rintro (rfl | rfl | ⟨hx, hne⟩)
          · exact .inr ⟨.inl rfl, he⟩
          · exact .inl rfl
          · exact .inr ⟨.inr hx, hne⟩
        · rintro (rfl | ⟨rfl | hx, hne⟩)
          · exact .inr (.inl rfl)
          · exact .inl rfl
          · exact .inr (.inr ⟨hx, hne⟩)
theorem setS_sorted (n : Nat) (v : V) : ∀ (es : List (Nat × V)), es.Pairwise (fun a b => a.1 < b.1) → (setS n v es).Pairwise (fun a b => a.1 < b.1) := by
  intro es
  induction es with
  | nil => intro _; simp [setS]
  | cons e l ih =>
    intro hp
    have hp' := hp
    rw [List.pairwise_cons] at hp
    rw [setS_cons]
    split
    · rename_i he
      rw [beq_nat] at he
      rw [List.pairwise_cons]
      exact ⟨fun x hx => by have := hp.1 x hx; simp only; omega, hp.2⟩
    · rename_i he
      rw [beq_nat_false] at he
      split
      · rename_i hb
        rw [ble_nat] at hb
        rw [List.pairwise_cons]
        refine ⟨fun x hx => ?_, hp'⟩
        rcases List.mem_cons.1 hx with rfl | hx
        · simp only; omega
        · have := hp.1 x hx; simp only; omega
      · rename_i hb
        rw [ble_nat_false] at hb
        rw [List.pairwise_cons]
        refine ⟨fun x hx => ?_, ih hp.2⟩
        rcases (setS_mem n v l hp.2 x).1 hx with rfl | ⟨hx, _⟩
        · exact hb
        · exact hp.1 x hx
theorem insS_cons (n : Nat) (v : V) (e : Nat × V) (l : List (Nat × V)) : insS n v (e :: l) = (match Nat.beq e.1 n with
    | true => none
    | false => match Nat.ble n e.1 with
      | true => some ((n, v) :: e :: l)
      | false => match insS n v l with
        | some r => some (e :: r)
        | none => none) := rfl
/-- a new key is one that is not there -/
theorem insS_set (n : Nat) (v : V) : ∀ (es r : List (Nat × V)), es.Pairwise (fun a b => a.1 < b.1) → insS n v es = some r → r = setS n v es ∧ lookS n es = none := by
  intro es
  induction es with
  | nil => intro r _ h; simp only [insS] at h; injection h with h; subst h; exact ⟨rfl, rfl⟩
  | cons e l ih =>
    intro r hp h
    have hp' := hp
    rw [List.pairwise_cons] at hp
    rw [insS_cons] at h
    rw [setS_cons]
    change _ ∧ (match Nat.beq e.1 n with | true => some e.2 | false => lookS n l) = none
    cases he : Nat.beq e.1 n with
    | true => rw [he] at h; cases h
    | false =>
      rw [he] at h
      simp only at h ⊢
      cases hb : Nat.ble n e.1 with
      | true =>
        rw [hb] at h
        simp only at h ⊢
        injection h with h
        refine ⟨h.symm, ?_⟩
        cases hl : lookS n l with
        | none => rfl
        | some v' =>
          have := hp.1 _ ((lookS_iff n l hp.2 v').1 hl)
          rw [ble_nat] at hb
          simp only at this
          omega
      | false =>
        rw [hb] at h
        simp only at h ⊢
        split at h
        · rename_i r' hr'
          injection h with h; subst h
          obtain ⟨a, b⟩ := ih r' hp.2 hr'
          exact ⟨by rw [a], b⟩
        · cases h

/-- a key that is there, its value put anew -/
theorem SmR.put {kd : IntKind} {es : List (Nat × V)} {es' : List MapEntry} (h : SmR ρ kd es es') {n j : Nat} {v : V} {e : MapEntry} {f : MapEntry → MapEntry} (hj : es'[j]? = some e) (hk : e.key = .int kd (Int.ofNat n))
    (hf : (f e).key = .int kd (Int.ofNat n)) (hv : VR ρ v (f e).val) : SmR ρ kd (setS n v es) (es'.modify j f) := by
  have hjl : j < es'.length := by
    rcases Nat.lt_or_ge j es'.length with q | q
    · exact q
    · rw [List.getElem?_eq_none q] at hj; cases hj
  have hgj : es'[j] = e := by rw [List.getElem?_eq_getElem hjl] at hj; injection hj
  have hget : ∀ i x, (es'.modify j f)[i]? = some x → (i = j ∧ x = f e) ∨ (i ≠ j ∧ es'[i]? = some x) := by
    intro i x hx
    rw [List.getElem?_modify] at hx
    by_cases e1 : j = i
    · subst e1
      rw [hj] at hx
      simp only at hx
      injection hx with hx
      exact .inl ⟨rfl, hx.symm⟩
    · simp only [if_neg e1] at hx
      refine .inr ⟨fun q => e1 q.symm, ?_⟩
      simpa using hx
  -- the keys are what they were
  have hkeys : (es'.modify j f).map (·.key) = es'.map (·.key) := by
    apply List.ext_getElem?
    intro i
    rw [List.getElem?_map, List.getElem?_map, List.getElem?_modify]
    by_cases e1 : j = i
    · subst e1; rw [hj]; simp [hf, hk]
    · simp [if_neg e1]
  -- another place has another key
  have hother : ∀ i x, i ≠ j → es'[i]? = some x → x.key ≠ .int kd (Int.ofNat n) := by
    intro i x hi hx hkx
    have hap := h.apart
    rw [List.pairwise_iff_getElem] at hap
    have hil : i < es'.length := by
      rcases Nat.lt_or_ge i es'.length with q | q
      · exact q
      · rw [List.getElem?_eq_none q] at hx; cases hx
    have hgi : es'[i] = x := by rw [List.getElem?_eq_getElem hil] at hx; injection hx
    rcases Nat.lt_or_gt_of_ne hi with q | q
    · exact hap i j (by simpa using hil) (by simpa using hjl) q (by simp [hgi, hgj, hkx, hk])
    · exact hap j i (by simpa using hjl) (by simpa using hil) q (by simp [hgi, hgj, hkx, hk])
  refine ⟨setS_sorted n v es h.sorted, ?_, ?_, by rw [hkeys]; exact h.apart⟩
  · intro m u hm
    rcases (setS_mem n v es h.sorted _).1 hm with e1 | ⟨hm, hne⟩
    · injection e1 with e1 e2; subst e1; subst e2
      refine ⟨f e, ?_, hf, hv⟩
      exact List.mem_of_getElem? (i := j) (by rw [List.getElem?_modify, hj]; simp)
    · obtain ⟨x, hx, hkx, hvx⟩ := h.there m u hm
      obtain ⟨i, hil, hgi⟩ := List.getElem_of_mem hx
      have hij : i ≠ j := by
        intro e1; subst e1
        rw [hgj] at hgi; subst hgi
        rw [hk] at hkx; injection hkx with _ q
        exact hne (Int.ofNat.inj q).symm
      refine ⟨x, List.mem_of_getElem? (i := i) ?_, hkx, hvx⟩
      have hji : ¬ j = i := fun q => hij q.symm
      rw [List.getElem?_modify, List.getElem?_eq_getElem hil, hgi]; simp [hji]
  · intro x hx
    obtain ⟨i, hil, hgi⟩ := List.getElem_of_mem hx
    have hx2 : (es'.modify j f)[i]? = some x := by rw [List.getElem?_eq_getElem hil, hgi]
    rcases hget i x hx2 with ⟨_, rfl⟩ | ⟨hij, hxi⟩
    · exact ⟨n, v, (setS_mem n v es h.sorted _).2 (.inl rfl), hf, hv⟩
    · obtain ⟨m, u, hm, hkx, hvx⟩ := h.here x (List.mem_of_getElem? hxi)
      refine ⟨m, u, (setS_mem n v es h.sorted _).2 (.inr ⟨hm, fun q => ?_⟩), hkx, hvx⟩
      simp only at q; subst q
      exact hother i x hij hxi hkx
/-- a new key -/
theorem SmR.snoc {kd : IntKind} {es : List (Nat × V)} {es' : List MapEntry} (h : SmR ρ kd es es') {n : Nat} {v : V} {e : MapEntry} (hno : lookS n es = none) (hk : e.key = .int kd (Int.ofNat n)) (hv : VR ρ v e.val) :
    SmR ρ kd (setS n v es) (es' ++ [e]) := by
  have hnk : ∀ m u, (m, u) ∈ es → m ≠ n := by
    intro m u hm q; subst q
    have := (lookS_iff m es h.sorted u).2 hm
    rw [hno] at this; cases this
  refine ⟨setS_sorted n v es h.sorted, ?_, ?_, ?_⟩
  · intro m u hm
    rcases (setS_mem n v es h.sorted _).1 hm with e1 | ⟨hm, hne⟩
    · injection e1 with e1 e2; subst e1; subst e2
      exact ⟨e, by simp, hk, hv⟩
    · obtain ⟨x, hx, a⟩ := h.there m u hm
      exact ⟨x, by simp [hx], a⟩
  · intro x hx
    rcases List.mem_append.1 hx with hx | hx
    · obtain ⟨m, u, hm, a⟩ := h.here x hx
      exact ⟨m, u, (setS_mem n v es h.sorted _).2 (.inr ⟨hm, hnk m u hm⟩), a⟩
    · simp only [List.mem_singleton] at hx; subst hx
      exact ⟨n, v, (setS_mem n v es h.sorted _).2 (.inl rfl), hk, hv⟩
  · rw [List.map_append, List.pairwise_append]
    refine ⟨h.apart, by simp, ?_⟩
    intro a ha b hb q
    simp only [List.map_cons, List.map_nil, List.mem_singleton] at hb
    subst hb; subst q
    obtain ⟨x, hx, hxa⟩ := List.mem_map.1 ha
    obtain ⟨m, u, hm, hkx, _⟩ := h.here x hx
    rw [hxa, hk] at hkx; injection hkx with _ q
    exact hnk m u hm (Int.ofNat.inj q).symm

theorem lookS_cons (n : Nat) (e : Nat × V) (l : List (Nat × V)) : lookS n (e :: l) = (match Nat.beq e.1 n with
  | true => some e.2
  | false => lookS n l) := rfl
theorem setS_len_new (n : Nat) (v : V) : ∀ (es : List (Nat × V)), lookS n es = none → (setS n v es).length = es.length + 1
  | [], _ => rfl
  | e :: l, h => by
    rw [lookS_cons] at h
    rw [setS_cons]
    cases he : Nat.beq e.1 n with
    | true => rw [he] at h; cases h
    | false =>
      rw [he] at h
      simp only at h ⊢
      cases hb : Nat.ble n e.1 with
      | true => rfl
      | false => simp only [List.length_cons]; rw [setS_len_new n v l h]
theorem setS_len_old (n : Nat) (v u : V) : ∀ (es : List (Nat × V)), es.Pairwise (fun a b => a.1 < b.1) → lookS n es = some u → (setS n v es).length = es.length
  | [], _, h => by cases h
  | e :: l, hp, h => by
    rw [lookS_cons] at h
    rw [setS_cons]
    have hp' := List.pairwise_cons.1 hp
    cases he : Nat.beq e.1 n with
    | true => rfl
    | false =>
      rw [he] at h
      simp only at h ⊢
      cases hb : Nat.ble n e.1 with
      | true =>
        have := hp'.1 _ ((lookS_iff n l hp'.2 u).1 h)
        rw [ble_nat] at hb
        simp only at this
        omega
      | false => simp only [List.length_cons]; rw [setS_len_old n v u l hp'.2 h]
theorem MapOk.snoc {l : List MapEntry} {n : Nat} (h : MapOk l n) {e : MapEntry} (he : e.born = n) : MapOk (l ++ [e]) (n + 1) := by
  refine ⟨fun x hx => ?_, ?_⟩
  · rcases List.mem_append.1 hx with hx | hx
    · have := h.lt x hx; omega
    · simp only [List.mem_singleton] at hx; subst hx; omega
  · rw [List.map_append, List.nodup_append]
    refine ⟨h.nodup, by simp, fun a ha b hb => ?_⟩
    simp only [List.map_cons, List.map_nil, List.mem_singleton] at hb
    obtain ⟨x, hx, rfl⟩ := List.mem_map.1 ha
    have := h.lt x hx
    omega
theorem MapOk.modify {l : List MapEntry} {n : Nat} (h : MapOk l n) {j : Nat} {f : MapEntry → MapEntry} (hf : ∀ e, (f e).born = e.born) : MapOk (l.modify j f) n := by
  have hb : (l.modify j f).map (·.born) = l.map (·.born) := by
    apply List.ext_getElem?
    intro i
    rw [List.getElem?_map, List.getElem?_map, List.getElem?_modify]
    by_cases e1 : j = i
    · subst e1; cases l[j]? <;> simp [hf]
    · simp [if_neg e1]
  refine ⟨fun x hx => ?_, by rw [hb]; exact h.nodup⟩
  have : x.born ∈ (l.modify j f).map (·.born) := List.mem_map_of_mem hx
  rw [hb] at this
  obtain ⟨y, hy, e⟩ := List.mem_map.1 this
  rw [← e]; exact h.lt y hy

theorem smallKey {k0 k' : Value} {kd : IntKind} {n : Nat} {x : Value} (h : x = k0 ∨ x = k') (h0 : k0 = .int kd (Int.ofNat n)) (h1 : k' = .int kd (Int.ofNat n)) : x = .int kd (Int.ofNat n) := by
  rcases h with rfl | rfl <;> assumption
/-- m[k] = v -/
theorem updM_sound {t kt el : Nat} {k v : V} {k' v' : Value} {b b' : B} {loc : Loc} {h h' : H} {r : Nat} (hr : HR P ρ h w) (hu : P.underlying t = some (.map kt el)) (hko : keyOk P kt k = true) (hb : h.bs.get r = some b) (hρ : ρ r = some loc)
    (hm : updM P kt k v b = some b') (hk : VR ρ k k') (hv : VR ρ v v') (hnx : h'.next = h.next) (hgs : h'.gs = h.gs) (hbs : h'.bs = h.bs.set r b') (hcl : h'.cl = h.cl) :
    ∃ w', (Instr.mapUpdate t (.map (some loc.blk)) k' v').run P w = .ok () w' ∧ Ext ρ h w ρ h' w' ∧ HR P ρ h' w' := by
  have hck : (Instr.checkKey false 10000 kt k').run P w = .ok () w := checkKey_sound 8 kt k k' 10000 (by omega) hko hk w
  have hin : loc.blk < w.heap.size := hr.inb _ _ hρ
  unfold updM at hm
  split at hm
  · rename_i es cl
    obtain ⟨es', hw, hes⟩ := hr.blk r _ loc hb trivial hρ
    have hobj := r_obj (P := P) hw (by intro _ _ _ h; cases h)
    obtain ⟨ds, hkt⟩ := fitsT_desc (d := 7) hko
    split at hm
    · rename_i y hle
      obtain ⟨v0, n0⟩ := y
      split at hm
      · rename_i es2 hup
        injection hm with hm; subst hm
        obtain ⟨q, hq, hr2⟩ := findKey_sound (w := w) hkt hk hle hes
        rcases hr2 with ⟨a, _⟩ | ⟨v1, n1, u', j, a, rfl, c, e, he, _, _, hat⟩
        · cases a
        · obtain ⟨hke, hmod⟩ := hat v es2 hup
          have hej : es'[j]? = some e := by rw [← Array.getElem?_toList]; exact he
          obtain ⟨w1, kk, hs, hkk, s1, s2, s3, s4⟩ := stays (P := P) (w := w) (a := e.key) (b := k')
          have hkv : VR ρ k kk := by rcases hkk with rfl | rfl <;> assumption
          have hw1 : w1.heap[loc.blk]? = some (.map es' cl) := by rw [s1]; exact hw
          refine ⟨_, ?_, hr.obj (b' := .map es2 cl) hb hρ rfl rfl trivial (fun _ => by simp) hnx hgs hbs hcl (w' := { w1 with heap := w1.heap.setIfInBounds loc.blk (.map (es'.modify j fun e => { e with key := kk, val := v' }) cl) })
            (o := .map (es'.modify j fun e => { e with key := kk, val := v' }) cl) (by simp only [s1]) s2 s3 s4 ?_⟩
          · simp only [Instr.mapUpdate, Sem.run_bind, r_und hu, Result.andThen_ok, hobj, hck, hq, hej, Option.map_some, Option.getD_some, hs]
            exact r_set hw1 (by intro _ _ _ h; cases h)
          · refine ⟨_, by rw [Array.getElem?_setIfInBounds, if_pos rfl, if_pos (by rw [s1]; exact hin)], ?_⟩
            rw [Array.toList_modify]
            exact hmod _ hkv hv rfl
      · cases hm
    · rename_i hle
      injection hm with hm; subst hm
      obtain ⟨q, hq, hr2⟩ := findKey_sound (w := w) hkt hk hle hes
      rcases hr2 with ⟨_, rfl⟩ | ⟨_, _, _, _, a, _⟩
      · refine ⟨_, ?_, hr.obj hb hρ rfl rfl trivial (fun _ => by simp) hnx hgs hbs hcl (w' := { w with heap := w.heap.setIfInBounds loc.blk (.map (es'.push { key := k', val := v', born := cl }) (cl + 1)) }) rfl rfl rfl rfl ?_⟩
        · simp only [Instr.mapUpdate, Sem.run_bind, r_und hu, Result.andThen_ok, hobj, hck, hq]
          exact r_set hw (by intro _ _ _ h; cases h)
        · refine ⟨_, by rw [Array.getElem?_setIfInBounds, if_pos rfl, if_pos hin], ?_⟩
          rw [Array.toList_push, lapp_eq]
          exact hes.snoc hk hv rfl
      · cases a
    · cases hm
  · rename_i kd es
    obtain ⟨es', hw, hes, hok⟩ := hr.blk r _ loc hb trivial hρ
    have hobj := r_obj (P := P) hw (by intro _ _ _ h; cases h)
    split at hm
    · rename_i j m
      split at hm
      · rename_i hsk
        have := sameK_eq hsk; subst this
        injection hm with hm; subst hm
        have hkt := fitsT_int (d := 7) hko
        have hk' := hk.int_inv
        obtain ⟨q, hq, hr2⟩ := findS_sound (P := P) (w := w) (n := m) hkt hes
        rw [← hk'] at hq
        rcases hr2 with ⟨hno, rfl⟩ | ⟨v1, u', j, e, hlk, rfl, _, he, hke, _⟩
        · refine ⟨_, ?_, hr.obj hb hρ rfl rfl trivial (fun _ => by simp) hnx hgs hbs hcl (w' := { w with heap := w.heap.setIfInBounds loc.blk (.map (es'.push { key := k', val := v', born := es.length }) (es.length + 1)) }) rfl rfl rfl rfl ?_⟩
          · simp only [Instr.mapUpdate, Sem.run_bind, r_und hu, Result.andThen_ok, hobj, hck, hq]
            exact r_set hw (by intro _ _ _ h; cases h)
          · refine ⟨_, by rw [Array.getElem?_setIfInBounds, if_pos rfl, if_pos hin, setS_len_new m v es hno], ?_⟩
            rw [Array.toList_push, setS_len_new m v es hno]
            exact ⟨hes.snoc hno hk' hv, hok.snoc rfl⟩
        · have hej : es'[j]? = some e := by rw [← Array.getElem?_toList]; exact he
          obtain ⟨w1, kk, hs, hkk, s1, s2, s3, s4⟩ := stays (P := P) (w := w) (a := e.key) (b := k')
          have hw1 : w1.heap[loc.blk]? = some (.map es' es.length) := by rw [s1]; exact hw
          refine ⟨_, ?_, hr.obj hb hρ rfl rfl trivial (fun _ => by simp) hnx hgs hbs hcl (w' := { w1 with heap := w1.heap.setIfInBounds loc.blk (.map (es'.modify j fun e => { e with key := kk, val := v' }) es.length) })
            (o := .map (es'.modify j fun e => { e with key := kk, val := v' }) es.length) (by simp only [s1]) s2 s3 s4 ?_⟩
          · simp only [Instr.mapUpdate, Sem.run_bind, r_und hu, Result.andThen_ok, hobj, hck, hq, hej, Option.map_some, Option.getD_some, hs]
            exact r_set hw1 (by intro _ _ _ h; cases h)
          · refine ⟨_, by rw [Array.getElem?_setIfInBounds, if_pos rfl, if_pos (by rw [s1]; exact hin), setS_len_old m v _ es hes.sorted hlk], ?_⟩
            rw [Array.toList_modify, setS_len_old m v _ es hes.sorted hlk]
            exact ⟨hes.put he hke (smallKey hkk hke hk') hv, hok.modify fun _ => rfl⟩
      · cases hm
    · cases hm
  · cases hm

theorem mapUpdV_sound {t : Nat} {x k v : V} {x' k' v' : Value} {h h' : H} {u : Unit} (hr : HR P ρ h w) (e : mapUpdV P t x k v h = some (u, h')) (hx : VR ρ x x') (hk : VR ρ k k') (hv : VR ρ v v') :
    ∃ w', (Instr.mapUpdate t x' k' v').run P w = .ok () w' ∧ Ext ρ h w ρ h' w' ∧ HR P ρ h' w' := by
  simp only [mapUpdV] at e
  generalize hu : P.underlying t = d at e
  split at e
  · rename_i kt el
    generalize hko : keyOk P kt k = y at e
    cases y with
    | false => cases e
    | true =>
      cases x with
      | map r =>
        simp only at e
        obtain ⟨b, b', hb, hb', h1, h2, h3, h4⟩ := updB_some e
        cases hx with
        | map _ loc hρ => exact updM_sound hr hu hko hb hρ hb' hk hv h1 h2 h3 h4
      | _ => cases e
  · cases e

/-- a literal's entry -/
theorem insertV_sound {t bound : Nat} {x k v : V} {x' k' v' : Value} {h h' : H} {u : Unit} (hr : HR P ρ h w) (e : insertV P t bound x k v h = some (u, h')) (hx : VR ρ x x') (hk : VR ρ k k') (hv : VR ρ v v') :
    ∃ w', (Instr.mapUpdate t x' k' v').run P w = .ok () w' ∧ Ext ρ h w ρ h' w' ∧ HR P ρ h' w' := by
  simp only [insertV] at e
  generalize hu : P.underlying t = d at e
  split at e
  · rename_i kt el
    generalize hko : keyOk P kt k = y at e
    cases y with
    | false => cases e
    | true =>
      cases x with
      | map r =>
        simp only at e
        generalize Nat.blt r bound = y at e
        cases y with
        | false => cases e
        | true =>
          simp only at e
          split at e
          · rename_i j n
            obtain ⟨b, b', hb, hb', h1, h2, h3, h4⟩ := updB_some e
            split at hb'
            · rename_i kd es
              generalize hsk : sameK kd j = y at hb'
              cases y with
              | false => cases hb'
              | true =>
                simp only at hb'
                generalize hin : insS n v es = y at hb'
                cases y with
                | none => cases hb'
                | some es2 =>
                  simp only at hb'
                  injection hb' with hb'; subst hb'
                  cases hx with
                  | map _ loc hρ =>
                    obtain ⟨es', hw, hes, _⟩ := hr.blk r _ loc hb trivial hρ
                    obtain ⟨rfl, _⟩ := insS_set n v es es2 hes.sorted hin
                    refine updM_sound (v := v) hr hu hko hb hρ ?_ hk hv h1 h2 h3 h4
                    simp only [updM, hsk]
            · cases hb'
          · cases e
      | _ => cases e
  · cases e

theorem getMap_some {r : Nat} {h h' : H} {y : List (V × V × Nat) × Nat} (e : getMap r h = some (y, h')) : h' = h ∧ h.bs.get r = some (.map y.1 y.2) := by
  unfold getMap at e
  obtain ⟨b, h1, e1, e2⟩ := bind_some e
  obtain ⟨rfl, hb⟩ := getB_some e1
  split at e2
  · obtain ⟨rfl, rfl⟩ := pure_some e2; exact ⟨rfl, hb⟩
  · cases e2
theorem putMap_some {r cl : Nat} {es : List (V × V × Nat)} {h h' : H} {u : Unit} (e : putMap r es cl h = some (u, h')) : h'.next = h.next ∧ h'.gs = h.gs ∧ h'.bs = h.bs.set r (.map es cl) ∧ h'.cl = h.cl := by
  obtain ⟨b, b', h1, h2, h3⟩ := updB_some e
  cases b with
  | map a c => simp only at h2; injection h2 with h2; subst h2; exact h3
  | _ => simp at h2

theorem mapEntV_sound {t : Nat} {x k v : V} {x' k' : Value} {h h' : H} (hr : HR P ρ h w) (e : mapEntV P t x k h = some (v, h')) (hx : VR ρ x x') (hk : VR ρ k k') :
    ∃ v' w', (Instr.mapEntry t x' k').run P w = .ok v' w' ∧ Ext ρ h w ρ h' w' ∧ HR P ρ h' w' ∧ VR ρ v v' := by
  simp only [mapEntV] at e
  generalize hu : P.underlying t = d at e
  split at e
  · rename_i kt el
    generalize hko : keyOk P kt k = y, hz : zeroOf P el = z at e
    split at e
    · rename_i z0
      cases x with
      | map r =>
        simp only at e
        obtain ⟨y, h1, e1, e2⟩ := bind_some e
        obtain ⟨rfl, hb⟩ := getMap_some e1
        obtain ⟨es, cl⟩ := y
        simp only at e2 hb
        have hck : (Instr.checkKey false 10000 kt k').run P w = .ok () w := checkKey_sound 8 kt k k' 10000 (by omega) hko hk w
        obtain ⟨ds, hkt⟩ := fitsT_desc (d := 7) hko
        cases hx with
        | map _ loc hρ =>
          have hin : loc.blk < w.heap.size := hr.inb _ _ hρ
          obtain ⟨es', hw, hes⟩ := hr.blk r _ loc hb trivial hρ
          have hobj := r_obj (P := P) hw (by intro _ _ _ h; cases h)
          generalize hle : lookE P kt k es = y at e2
          split at e2
          · rename_i v0 n0
            generalize hup : updE P kt k v0 es = y at e2
            cases y with
            | none => cases e2
            | some es2 =>
              simp only at e2
              obtain ⟨_, h2, e3, e4⟩ := bind_some e2
              obtain ⟨rfl, rfl⟩ := pure_some e4
              obtain ⟨p1, p2, p3, p4⟩ := putMap_some e3
              obtain ⟨q, hq, hr2⟩ := findKey_sound (w := w) hkt hk hle hes
              rcases hr2 with ⟨a, _⟩ | ⟨v1, n1, u', j, a, rfl, c, e, he, hev, hen, hat⟩
              · cases a
              · injection a with a; injection a with a1 a2; subst a1; subst a2
                obtain ⟨hke, hmod⟩ := hat v0 es2 hup
                have hej : es'[j]? = some e := by rw [← Array.getElem?_toList]; exact he
                obtain ⟨w1, kk, hs, hkk, s1, s2, s3, s4⟩ := stays (P := P) (w := w) (a := e.key) (b := k')
                have hkv : VR ρ k kk := by rcases hkk with rfl | rfl <;> assumption
                have hw1 : w1.heap[loc.blk]? = some (.map es' cl) := by rw [s1]; exact hw
                have := hr.obj (b' := .map es2 cl) hb hρ rfl rfl trivial (fun _ => by simp) p1 p2 p3 p4 (w' := { w1 with heap := w1.heap.setIfInBounds loc.blk (.map (es'.modify j fun e => { e with key := kk }) cl) })
                  (o := .map (es'.modify j fun e => { e with key := kk }) cl) (by simp only [s1]) s2 s3 s4
                  ⟨_, by rw [Array.getElem?_setIfInBounds, if_pos rfl, if_pos (by rw [s1]; exact hin)], by rw [Array.toList_modify]; exact hmod _ hkv (by rw [← hev] at c; exact c) rfl⟩
                refine ⟨.tuple #[u', goInt (e.born : Nat)], _, ?_, this.1, this.2, ?_⟩
                · simp only [Instr.mapEntry, Sem.run_bind, r_und hu, Result.andThen_ok, hobj, hck, hq, hej, Option.map_some, Option.getD_some, hs, r_set hw1 (mapNe es' cl), Sem.run_pure]
                · refine .tup _ [u', goInt (e.born : Nat)] (.cons _ _ _ _ c (.cons _ _ _ _ ?_ .nil))
                  rw [hen]; exact .int _ _
          · obtain ⟨_, h2, e3, e4⟩ := bind_some e2
            obtain ⟨rfl, rfl⟩ := pure_some e4
            obtain ⟨p1, p2, p3, p4⟩ := putMap_some e3
            obtain ⟨q, hq, hr2⟩ := findKey_sound (w := w) hkt hk hle hes
            obtain ⟨z', rz, vz⟩ := zeroOf_run (w := w) (ρ := ρ) hz
            rcases hr2 with ⟨_, rfl⟩ | ⟨_, _, _, _, a, _⟩
            · have := hr.obj (b' := .map (lapp es [(k, z0, cl)]) (cl + 1)) hb hρ rfl rfl trivial (fun _ => by simp) p1 p2 p3 p4 (w' := { w with heap := w.heap.setIfInBounds loc.blk (.map (es'.push { key := k', val := z', born := cl }) (cl + 1)) }) rfl rfl rfl rfl
                ⟨_, by rw [Array.getElem?_setIfInBounds, if_pos rfl, if_pos hin], by rw [Array.toList_push, lapp_eq]; exact hes.snoc hk vz rfl⟩
              refine ⟨.tuple #[z', goInt cl], _, ?_, this.1, this.2, .tup _ [z', goInt cl] (.cons _ _ _ _ vz (.cons _ _ _ _ (.int _ _) .nil))⟩
              simp only [Instr.mapEntry, Sem.run_bind, r_und hu, Result.andThen_ok, hobj, hck, hq, rz, r_set hw (mapNe es' cl), Sem.run_pure]
            · cases a
          · cases e2
      | _ => cases e
    · cases e
  · cases e

theorem putE_sound {n : Nat} {v : V} {v' : Value} (hv : VR ρ v v') : ∀ (es es2 : List (V × V × Nat)) (es' : List MapEntry), putE n v es = some es2 → EsR ρ es es' →
    ∃ i, es'.findIdx? (fun e => (e.born : Int) == Int.ofNat n) = some i ∧ EsR ρ es2 (es'.modify i fun e => { e with val := v' }) := by
  intro es
  induction es with
  | nil => intro es2 es' h _; cases h
  | cons e l ih =>
    intro es2 es' h hes
    cases hes with
    | cons k0 v0 m e' _ l' hk hv0 hn hs =>
      change (match Nat.beq m n with
        | true => some ((k0, v, n) :: l)
        | false => match putE n v l with
          | some r => some ((k0, v0, m) :: r)
          | none => none) = some es2 at h
      rw [List.findIdx?_cons]
      split at h
      · rename_i hb
        rw [beq_nat] at hb
        injection h with h; subst h
        have : ((e'.born : Int) == Int.ofNat n) = true := by rw [hn, hb]; simp
        rw [this]
        refine ⟨0, rfl, ?_⟩
        have : (e' :: l').modify 0 (fun e => { e with val := v' }) = { e' with val := v' } :: l' := by simp
        rw [this]
        exact .cons _ _ _ _ _ _ hk hv (hn.trans hb) hs
      · rename_i hb
        rw [beq_nat_false] at hb
        split at h
        · rename_i r hr
          injection h with h; subst h
          obtain ⟨i, h1, h2⟩ := ih r l' hr hs
          have : ((e'.born : Int) == Int.ofNat n) = false := by rw [hn]; simp; omega
          rw [this]
          refine ⟨i + 1, by rw [h1]; rfl, ?_⟩
          have : (e' :: l').modify (i + 1) (fun e => { e with val := v' }) = e' :: l'.modify i (fun e => { e with val := v' }) := by simp
          rw [this]
          exact .cons _ _ _ _ _ _ hk hv0 hn h2
        · cases h

theorem entStV_sound {t : Nat} {x s v : V} {x' s' v' : Value} {h h' : H} {u : Unit} (hr : HR P ρ h w) (e : entStV x s v h = some (u, h')) (hx : VR ρ x x') (hs : VR ρ s s') (hv : VR ρ v v') :
    ∃ w', (Instr.entryStore t x' s' v').run P w = .ok () w' ∧ Ext ρ h w ρ h' w' ∧ HR P ρ h' w' := by
  simp only [entStV] at e
  cases x with
  | map r =>
    simp only at e
    generalize hn : natOf s = y at e
    cases y with
    | none => cases e
    | some n =>
      simp only at e
      obtain ⟨y, h1, e1, e2⟩ := bind_some e
      obtain ⟨rfl, hb⟩ := getMap_some e1
      obtain ⟨es, cl⟩ := y
      simp only at e2 hb
      generalize hp : putE n v es = y at e2
      cases y with
      | none => cases e2
      | some es2 =>
        simp only at e2
        obtain ⟨p1, p2, p3, p4⟩ := putMap_some e2
        obtain ⟨k, rfl⟩ := natOf_sound hn hs
        cases hx with
        | map _ loc hρ =>
          have hin : loc.blk < w.heap.size := hr.inb _ _ hρ
          obtain ⟨es', hw, hes⟩ := hr.blk r _ loc hb trivial hρ
          have hobj := r_obj (P := P) hw (by intro _ _ _ h; cases h)
          obtain ⟨i, hi, hes2⟩ := putE_sound hv es es2 es'.toList hp hes
          have hi' : es'.findIdx? (fun e => (e.born : Int) == Int.ofNat n) = some i := by rw [← hi, ← List.findIdx?_toArray]
          have := hr.obj (b' := .map es2 cl) hb hρ rfl rfl trivial (fun _ => by simp) p1 p2 p3 p4 (w' := { w with heap := w.heap.setIfInBounds loc.blk (.map (es'.modify i fun e => { e with val := v' }) cl) }) rfl rfl rfl rfl
            ⟨_, by rw [Array.getElem?_setIfInBounds, if_pos rfl, if_pos hin], by rw [Array.toList_modify]; exact hes2⟩
          refine ⟨_, ?_, this.1, this.2⟩
          have q : (asIntOf (.int k (Int.ofNat n))).run P w = .ok (k, Int.ofNat n) w := rfl
          simp only [Instr.entryStore, Sem.run_bind, Result.andThen_ok, hobj, asInt, q, hi', Sem.run_pure, r_set hw (mapNe es' cl)]
  | _ => cases e
end Go.Ev
/- append and copy. -/
namespace Go.Ev
open Go
variable {P : Program} {w : World} {ρ : Rn}

theorem cellsOfBytes_eq (l : List Nat) : cellsOfBytes l = l.map fun n => V.int .u8 (.ofNat n) := lmap_eq _ _
theorem bytes_VRs (s : List UInt8) : VRs ρ (cellsOfBytes (s.map (·.toNat))) (s.map fun b => Value.int .u8 (b.toNat : Int)) := by
  rw [cellsOfBytes_eq]
  induction s with
  | nil => exact .nil
  | cons b s ih => exact .cons _ _ _ _ (.int _ _) ih
theorem bytes_allOne (l : List Nat) : allOne (cellsOfBytes l) = true := by
  rw [cellsOfBytes_eq, allOne_iff]
  intro v hv
  obtain ⟨n, _, rfl⟩ := List.mem_map.1 hv
  rfl
theorem ofBytes_data (s : ByteArray) : ofBytes s = s.data.toList.map (·.toNat) := rfl

/-- the elements of an argument -/
theorem elemsOf_sound {sz : Nat} {x : V} {x' : Value} {h h1 : H} {xs : List V} {n : Nat} (hr : HR P ρ h w) (e : elemsOf sz x h = some ((xs, n), h1)) (hx : VR ρ x x') :
    h1 = h ∧ allOne xs = true ∧ xs.length = n * sz ∧ ∃ xs', VRs ρ xs xs' ∧ ∀ w', w'.heap = w.heap → (Builtin.lenOf x').run P w' = .ok n w' ∧ ∀ m, m ≤ n → (Builtin.firstCells sz m x').run P w' = .ok (xs'.take (m * sz)).toArray w' := by
  cases x with
  | str l k =>
    simp only [elemsOf] at e
    split at e
    · obtain ⟨p, rfl⟩ := pure_some e
      injection p with p1 p2; subst p1; subst p2
      obtain ⟨s, rfl, hl, hn⟩ := hx.str_inv
      have hsz : s.size = n := by rw [← hn, ← hl, ofBytes_size]
      refine ⟨rfl, bytes_allOne _, by rw [cellsOfBytes_eq, List.length_map, hn, Nat.mul_one], s.data.toList.map fun b => Value.int .u8 (b.toNat : Int), ?_, fun w' _ => ⟨?_, fun m hm => ?_⟩⟩
      · rw [← hl, ofBytes_data]; exact bytes_VRs _
      · simp only [Builtin.lenOf, Sem.run_pure, hsz]
      · simp only [Builtin.firstCells, Sem.run_pure, Nat.mul_one]
        congr 1
        apply Array.ext'
        simp [ByteArray.data_extract]
    · cases e
  | nils =>
    simp only [elemsOf] at e
    obtain ⟨p, rfl⟩ := pure_some e
    injection p with p1 p2; subst p1; subst p2
    cases hx
    exact ⟨rfl, rfl, by simp, [], .nil, fun w' _ => ⟨rfl, fun m _ => by simp only [List.take_nil]; rfl⟩⟩
  | sl b o len cap =>
    simp only [elemsOf] at e
    obtain ⟨y, h2, e1, e2⟩ := bind_some e
    obtain ⟨c, ee, k⟩ := y
    obtain ⟨rfl, b0, hb, hlv, hcb, _⟩ := cellsOf_some e1
    simp only at e2
    generalize hs : sub c o (len * sz) = q at e2
    cases q with
    | none => cases e2
    | some l =>
      obtain ⟨p, rfl⟩ := pure_some e2
      injection p with p1 p2; subst p1; subst p2
      obtain ⟨hle, rfl⟩ := sub_some hs
      have main : ∀ loc c', ρ b = some loc → x' = .slice (some ⟨loc.blk, loc.sh + o, none⟩) n c' → h1 = h1 ∧ allOne ((c.drop o).take (n * sz)) = true ∧ ((c.drop o).take (n * sz)).length = n * sz ∧ ∃ xs', VRs ρ ((c.drop o).take (n * sz)) xs' ∧
          ∀ w', w'.heap = w.heap → (Builtin.lenOf x').run P w' = .ok n w' ∧ ∀ m, m ≤ n → (Builtin.firstCells sz m x').run P w' = .ok (xs'.take (m * sz)).toArray w' := fun loc c' hρ hx' => by
        obtain ⟨cs, e0, fz, hw, hca, h1⟩ := (hr.blk b b0 loc hb hlv hρ).cells hcb
        obtain ⟨q1, q2, q3⟩ := hca.list hle
        refine ⟨rfl, allOne_sub h1 _ _, by rw [q1.length, q2], _, q1, fun w' hw' => ?_⟩
        subst hx'
        refine ⟨rfl, fun m hm => ?_⟩
        have hmn : m * sz ≤ n * sz := Nat.mul_le_mul_right sz hm
        simp only [Builtin.firstCells]
        have := loadList (P := P) (w := w') (b := loc.blk) (e := e0) (fz := fz) (by rw [hw']; exact hw) hca (o := o) (n := m * sz) (by omega)
        rw [this, List.take_take, Nat.min_eq_left hmn]
      cases hx with
      | slx _ _ _ c' loc hρ hc => exact main loc c' hρ rfl
      | sle _ _ _ d loc hρ hc => exact main loc _ hρ rfl
  | _ => cases e

theorem growBy_le (n : Nat) : ∀ (r c : Nat), c ≤ 2 * n + 1024 → Builtin.growBy n r c ≤ 2 * n + 1024
  | 0, c, h => h
  | r + 1, c, h => by
    unfold Builtin.growBy
    split
    · exact h
    · exact growBy_le n r _ (by omega)
theorem nextslicecap_le {n c : Nat} (h : c < n) : Builtin.nextslicecap n c ≤ 2 * n + 1024 := by
  unfold Builtin.nextslicecap
  split
  · omega
  · split
    · omega
    · exact growBy_le n 4 c (by omega)
theorem zeroCells_size (z : Array Value) (n : Nat) : (Builtin.zeroCells z n).size = n * z.size := by simp [Builtin.zeroCells]

/-- append, to new memory -/
theorem run_grow {t u e n sLen sCap : Nat} {ats : Array TypeId} {ty : Nat} {i : TypeInfo} {d : TypeDesc} {v0 s' x' : Value} {xs' olds' : List Value} {base : Option Addr} (h0 : ats[0]? = some t) (h1 : ats[1]? = some u)
    (ht : P.underlying t = some (.slice e)) (hu : P.underlying u = some d) (hd : ∀ k, d ≠ .int k) (hi : P.info? e = some i) (hby : 0 < i.bytes) (hz : ∀ w', (zeroValue e).run P w' = .ok v0 w') (hzs : v0.cells.size = i.size)
    (hs : s' = .slice base sLen sCap) (hxl : ∀ w', w'.heap = w.heap → (Builtin.lenOf x').run P w' = .ok n w') (hxf : ∀ w', w'.heap = w.heap → (Builtin.firstCells i.size n x').run P w' = .ok xs'.toArray w')
    (hsf : ∀ w', w'.heap = w.heap → (Builtin.firstCells i.size sLen s').run P w' = .ok olds'.toArray w') (hgr : sCap < sLen + n) (hbd : (2 * (sLen + n) + 1024) * i.bytes ≤ 281474976710656) :
    ∃ cap w1 rest, sLen + n ≤ cap ∧ rest.length = (cap - (sLen + n)) * i.size ∧ (Builtin.append_ ats ty #[s', x']).run P w = .ok (.slice (some ⟨w.heap.size, 0, none⟩) (sLen + n) cap) w1 ∧
      w1.heap = w.heap.push (.cells (olds' ++ xs' ++ rest).toArray e (0, 0)) ∧ w1.os = w.os ∧ w1.output = w.output ∧ w1.tape = w.tape := by
  have hsize : szOf P e = some i.size := by unfold szOf; rw [hi]
  have ng : ¬ (sLen + n ≤ sCap) := by omega
  have n1 : ¬ (((sLen + n : Nat) : Int) > IntKind.i64.max ∧ (False ∨ i.bytes = 0)) := by
    rintro ⟨_, q | q⟩
    · cases q
    · omega
  have n2 : ¬ (Builtin.nextslicecap (sLen + n) sCap * i.bytes > 2 ^ 48) := by
    have := nextslicecap_le hgr
    have := Nat.mul_le_mul_right i.bytes this
    omega
  have hask : ∀ (b : Nat) (w' : World), (askRoom b).run P w' = .ok () w' := by
    intro b w'
    unfold askRoom
    split <;> rfl
  obtain ⟨cap, w1, hc, hcap, e1, e2, e3, e4⟩ : ∃ cap w1, (choose (.appendCap (sLen + n) sCap e)).run P w = .ok cap w1 ∧ sLen + n ≤ cap ∧ w1.heap = w.heap ∧ w1.os = w.os ∧ w1.output = w.output ∧ w1.tape = w.tape := by
    refine ⟨_, _, rfl, ?_, rfl, rfl, rfl, rfl⟩
    simp only [Question.cut]
    omega
  refine ⟨cap, { w1 with heap := w1.heap.push (.cells (olds'.toArray ++ xs'.toArray ++ Builtin.zeroCells v0.cells (cap - (sLen + n))) e) }, (Builtin.zeroCells v0.cells (cap - (sLen + n))).toList, hcap, ?_, ?_, ?_, e2, e3, e4⟩
  · rw [Array.length_toList, zeroCells_size, hzs]
  · have a0 : (#[s', x'] : Array Value)[0]? = some s' := rfl
    have a1 : (#[s', x'] : Array Value)[1]? = some x' := rfl
    have hsf' := hsf
    subst hs
    simp only [Builtin.append_, h0, h1, a0, a1, Sem.run_bind, r_und ht, r_und hu, Result.andThen_ok, r_size hsize, Sem.run_pure, Bool.false_eq_true, if_false, hxl w rfl]
    simp only [if_neg ng, Sem.run_bind, r_info hi, Result.andThen_ok, Bool.not_false, if_true]
    simp only [if_neg n1, Sem.run_bind, r_info hi, Result.andThen_ok, if_neg n2, hc, hask, hsf w1 e1, hxf w1 e1, hz, newRow, newObj, Sem.run_pure]
    rw [← e1]
    rfl
  · simp only [e1]
    congr 2
    apply Array.ext'
    simp

/-- append, where there is room -/
theorem run_room {t u e n sLen sCap : Nat} {ats : Array TypeId} {ty : Nat} {i : TypeInfo} {d : TypeDesc} {s' x' : Value} {xs' : List Value} {base : Option Addr} {w' : World} (h0 : ats[0]? = some t) (h1 : ats[1]? = some u)
    (ht : P.underlying t = some (.slice e)) (hu : P.underlying u = some d) (hd : ∀ k, d ≠ .int k) (hi : P.info? e = some i)
    (hs : s' = .slice base sLen sCap) (hxl : (Builtin.lenOf x').run P w = .ok n w) (hxf : (Builtin.firstCells i.size n x').run P w = .ok xs'.toArray w)
    (hgr : sLen + n ≤ sCap) (hst : match base with | some a => (storeCells (a.add (sLen * i.size)) xs').run P w = .ok () w' | none => w' = w) :
    (Builtin.append_ ats ty #[s', x']).run P w = .ok (.slice base (sLen + n) sCap) w' := by
  have hsize : szOf P e = some i.size := by unfold szOf; rw [hi]
  have a0 : (#[s', x'] : Array Value)[0]? = some s' := rfl
  have a1 : (#[s', x'] : Array Value)[1]? = some x' := rfl
  subst hs
  simp only [Builtin.append_, h0, h1, a0, a1, Sem.run_bind, r_und ht, r_und hu, Result.andThen_ok, r_size hsize, Sem.run_pure, Bool.false_eq_true, if_false, hxl]
  simp only [if_pos hgr, Sem.run_bind, Bool.not_false, if_true, hxf, Result.andThen_ok]
  cases base with
  | none => simp only at hst; subst hst; rfl
  | some a => simp only at hst ⊢; simp only [Sem.run_bind, hst, Result.andThen_ok, Sem.run_pure]

theorem newG_some {c : List V} {ee id : Nat} {h h' : H} (e : newG c ee h = some (id, h')) :
    id = h.next ∧ h'.next = h.next + 1 ∧ h'.gs = h.gs ∧ h'.bs = h.bs.set h.next (.cells c ee (h.next + 1)) ∧ h'.cl = h.cl.set (h.next + 1) (.mk h.next h.next false) := by
  obtain ⟨n, gs, wr, bs, cl⟩ := h
  simp only [newG] at e
  injection e with e; injection e with e1 e2; subst e1; subst e2
  exact ⟨rfl, rfl, rfl, rfl, rfl⟩
theorem newB_some {b : B} {id : Nat} {h h' : H} (e : newB b h = some (id, h')) : id = h.next ∧ h'.next = h.next + 1 ∧ h'.gs = h.gs ∧ h'.bs = h.bs.set h.next b ∧ h'.cl = h.cl := by
  obtain ⟨n, gs, wr, bs, cl⟩ := h
  simp only [newB] at e
  injection e with e; injection e with e1 e2; subst e1; subst e2
  exact ⟨rfl, rfl, rfl, rfl, rfl⟩
theorem setC_some {k : Nat} {c : Cl} {u : Unit} {h h' : H} (e : setC k c h = some (u, h')) : h'.next = h.next ∧ h'.gs = h.gs ∧ h'.bs = h.bs ∧ h'.cl = h.cl.set k c := by
  obtain ⟨n, gs, wr, bs, cl⟩ := h
  simp only [setC] at e
  injection e with e; injection e with e1 e2; subst e2
  exact ⟨rfl, rfl, rfl, rfl⟩

/-- the cells of a block in new memory -/
theorem BR.fresh {c : List V} {l' rest : List Value} {ee k cap : Nat} {cl : T Cl} {ρ' : Rn} {w' : World} (h1 : allOne c = true) (hv : VRs ρ c l') (hle : ρ.le ρ') {fz : Nat × Nat} (hw : w'.heap = w.heap.push (.cells (l' ++ rest).toArray ee fz)) (hfz : l'.length + rest.length ≤ fz.1 ∨ fz.2 ≤ fz.1)
    (hc1 : c.length ≤ cap * P.cellsOf ee) (hc2 : cap * P.cellsOf ee ≤ l'.length + rest.length) : BR P ρ' cl (.cells c ee (k + 1)) ⟨w.heap.size, 0, cap⟩ w' := by
  refine ⟨h1, (l' ++ rest).toArray, fz, by rw [hw]; simp, ?_, hc1, ?_, ?_, fun _ _ _ => by simpa using hfz⟩
  · simp [hv.length]
  · simp; omega
  · intro j v hj
    obtain ⟨v', a, b⟩ := hv.get hj
    refine ⟨v', ?_, b.mono hle⟩
    have : j < l'.length := by
      rcases Nat.lt_or_ge j l'.length with q | q
      · exact q
      · rw [List.getElem?_eq_none q] at a; cases a
    simp only [Nat.zero_add, List.getElem?_toArray]
    rw [List.getElem?_append_left this]; exact a

theorem newG_sound {c : List V} {l' rest : List Value} {ee id cap : Nat} {h h' : H} {w' : World} (hr : HR P ρ h w) (e : newG c ee h = some (id, h')) (h1 : allOne c = true) (hv : VRs ρ c l')
    {fz : Nat × Nat} (hw : w'.heap = w.heap.push (.cells (l' ++ rest).toArray ee fz)) (hfz : l'.length + rest.length ≤ fz.1 ∨ fz.2 ≤ fz.1) (hos : w'.os = w.os) (hout : w'.output = w.output) (htp : w'.tape = w.tape)
    (hc1 : c.length ≤ cap * P.cellsOf ee) (hc2 : cap * P.cellsOf ee ≤ l'.length + rest.length) :
    Ext ρ h w (ρ.add id ⟨w.heap.size, 0, cap⟩) h' w' ∧ HR P (ρ.add id ⟨w.heap.size, 0, cap⟩) h' w' := by
  obtain ⟨rfl, n1, n2, n3, n4⟩ := newG_some e
  have hn : h.bs.get h.next = none := by
    cases hg : h.bs.get h.next with
    | none => rfl
    | some b => exact absurd (hr.lt _ _ hg) (Nat.lt_irrefl _)
  refine hr.add hn (by omega) (by omega) n3 n2 ?_ ?_ hw hos hout htp ?_
  · intro k hk; rw [n4, T.get_set_ne]; exact hk
  · intro _
    refine ⟨fun i b hb q => ?_, by rw [n4]; exact T.get_set_same _ _ _, by rw [n1]; exact Nat.le_refl _⟩
    have := hr.cls i b hb
    have q' : clsOf b = h.next + 1 := q
    omega
  · exact BR.fresh h1 hv (hr.le_add hn _) hw hfz hc1 hc2

theorem mulsub (a b c : Nat) (h : b ≤ a) : b * c + (a - b) * c = a * c := by
  rw [← Nat.add_mul]; congr 1; omega

def SV (P : Program) (ρ : Rn) (h : H) (w : World) (s : Sem Value) (v : V) (h' : H) : Prop :=
  ∃ ρ' v' w', s.run P w = .ok v' w' ∧ Ext ρ h w ρ' h' w' ∧ HR P ρ' h' w' ∧ VR ρ' v v'

theorem appendB_sound {t u e n b o len : Nat} {cap : Cap} {ats : Array TypeId} {ty : Nat} {i : TypeInfo} {d : TypeDesc} {z xs : List V} {v : V} {s' x' : Value} {xs' : List Value} {h h' : H} (hr : HR P ρ h w)
    (h0 : ats[0]? = some t) (h1 : ats[1]? = some u) (ht : P.underlying t = some (.slice e)) (hu : P.underlying u = some d) (hd : ∀ k, d ≠ .int k) (hi : P.info? e = some i) (hby : 0 < i.bytes) (hsz : 0 < i.size)
    (hz : zcells P e = some z) (hzs : z.length = i.size) (hs : VR ρ (.sl b o len cap) s') (hxl : ∀ w', w'.heap = w.heap → (Builtin.lenOf x').run P w' = .ok n w')
    (hxf : ∀ w', w'.heap = w.heap → (Builtin.firstCells i.size n x').run P w' = .ok xs'.toArray w') (hxs : VRs ρ xs xs') (hx1 : allOne xs = true) (hxn : xs.length = n * i.size)
    (hbd : (2 * (len + n) + 1024) * i.bytes ≤ 281474976710656) (ev : appendB e i.size b o len cap xs n h = some (v, h')) : SV P ρ h w (Builtin.append_ ats ty #[s', x']) v h' := by
  have hsize : szOf P e = some i.size := by unfold szOf; rw [hi]
  have hce : P.cellsOf e = i.size := szOf_cells hsize
  obtain ⟨v0, z', _, c0, vz, _⟩ := zcells_run (w := w) (ρ := ρ) hz
  have hz0 : ∃ v0, (∀ w', (zeroValue e).run P w' = .ok v0 w') ∧ v0.cells.size = i.size := by
    unfold zcells at hz
    split at hz
    · rename_i y hy
      unfold zeroOf at hy
      rw [hi] at hy
      simp only at hy
      split at hy
      · rename_i v0 hv0
        have hrun : ∀ w', (zeroValue e).run P w' = .ok v0 w' := fun w' => by simp [zeroValue, r_info hi, hv0]
        obtain ⟨l', a, bb, _⟩ := cells_sound hz (ofV_sound (ρ := ρ) hy)
        exact ⟨v0, hrun, by rw [a]; simp [← bb.length, hzs]⟩
      · cases hy
    · cases hz
  obtain ⟨v0, hzr, hzc⟩ := hz0
  simp only [appendB] at ev
  obtain ⟨y, h1', e1, e2⟩ := bind_some ev
  obtain ⟨c, e', k⟩ := y
  obtain ⟨rfl, b0, hb, hlv, hcb, hcs⟩ := cellsOf_some e1
  simp only at e2
  cases cap with
  | ex m =>
    simp only at e2
    cases hs with
    | slx _ _ _ _ loc hρ hc =>
      generalize hroom : Nat.ble (len + n) m = q at e2
      cases q with
      | true =>
        simp only at e2
        rw [ble_nat] at hroom
        obtain ⟨_, h2, e3, e4⟩ := bind_some e2
        generalize hov : over c (o + len * i.size) xs = q at e4
        cases q with
        | none => cases e4
        | some c' =>
          simp only at e4
          obtain ⟨_, h3, e5, e6⟩ := bind_some e4
          obtain ⟨rfl, rfl⟩ := pure_some e6
          obtain ⟨w', hst, x, y⟩ := put_sound hr e1 e3 hov e5 hρ hxs hx1
          refine ⟨ρ, _, w', run_room h0 h1 ht hu hd hi rfl (hxl w rfl) (hxf w rfl) hroom ?_, x, y, .slx b o _ m loc hρ hroom⟩
          simp only [add_off, Nat.add_assoc]; exact hst
      | false =>
        simp only at e2
        rw [ble_nat_false] at hroom
        generalize hsub : sub c o (len * i.size) = q at e2
        cases q with
        | none => cases e2
        | some old =>
          simp only at e2
          obtain ⟨b', h2, e3, e4⟩ := bind_some e2
          obtain ⟨rfl, rfl⟩ := pure_some e4
          obtain ⟨hle, rfl⟩ := sub_some hsub
          obtain ⟨cs, e0, fz, hw, hca, h1c⟩ := (hr.blk b b0 loc hb hlv hρ).cells hcb
          obtain ⟨q1, q2, q3⟩ := hca.list hle
          obtain ⟨cap, w1, rest, g1, g2, g3, g4, g5, g6, g7⟩ := run_grow (P := P) (w := w) (ty := ty) (base := some ⟨loc.blk, loc.sh + o, none⟩) h0 h1 ht hu hd hi hby hzr hzc rfl hxl hxf
            (fun w' hw' => by simp only [Builtin.firstCells]; exact loadList (by rw [hw']; exact hw) hca hle) hroom hbd
          rw [lapp_eq] at e3
          have hlen : ((c.drop o).take (len * i.size) ++ xs).length = (len + n) * i.size := by rw [List.length_append, q1.length, q2, hxn, Nat.add_mul]
          have hm := newG_sound hr e3 (by rw [allOne_iff]; intro y hy; rcases List.mem_append.1 hy with q | q; exact (allOne_iff _).1 (allOne_sub h1c _ _) y q; exact (allOne_iff _).1 hx1 y q) (q1.append hxs)
            (w' := w1) (cap := cap) (by rw [g4]) (.inr (Nat.le_refl _)) g5 g6 g7 (by rw [hlen, hce]; exact Nat.mul_le_mul_right _ g1)
            (by rw [hce, ← (q1.append hxs).length, hlen, g2, mulsub _ _ _ g1]; exact Nat.le_refl _)
          refine ⟨_, _, w1, g3, hm.1, hm.2, ?_⟩
          have := VR.sle (ρ := ρ.add b' ⟨w.heap.size, 0, cap⟩) b' 0 (len + n) 0 ⟨w.heap.size, 0, cap⟩ (Rn.add_same _ _ _) (by simpa using g1)
          simpa using this
  | en d0 =>
    simp only at e2
    cases hs with
    | sle _ _ _ _ loc hρ hc =>
    cases k with
    | zero => cases e2
    | succ k =>
      simp only at e2
      have hcs' : b0 = .cells c e' (k + 1) := hcs.resolve_right (fun q => by omega)
      subst hcs'
      generalize ho : Nat.beq o (d0 * i.size) = q1, he : Nat.beq e e' = q2 at e2
      split at e2
      · rw [beq_nat] at ho he
        subst he
        obtain ⟨p1, cs, fz, p2, p3, p4, p5, p6, p7⟩ := hr.blk b _ loc hb hlv hρ
        rw [hce] at p4 p5
        generalize hroom : Nat.ble ((d0 + (len + n)) * i.size) (llen c) = q at e2
        cases q with
        | true =>
          simp only at e2
          rw [ble_nat, llen_eq] at hroom
          have hin : d0 + (len + n) ≤ loc.tot := Nat.le_of_mul_le_mul_right (Nat.le_trans hroom p4) hsz
          obtain ⟨_, h2, e3, e4⟩ := bind_some e2
          generalize hov : over c (o + len * i.size) xs = q at e4
          cases q with
          | none => cases e4
          | some c' =>
            simp only at e4
            obtain ⟨_, h3, e5, e6⟩ := bind_some e4
            obtain ⟨rfl, rfl⟩ := pure_some e6
            obtain ⟨w', hst, x, y⟩ := put_sound hr e1 e3 hov e5 hρ hxs hx1
            refine ⟨ρ, _, w', run_room h0 h1 ht hu hd hi rfl (hxl w rfl) (hxf w rfl) (by omega) ?_, x, y, .sle b o _ d0 loc hρ hin⟩
            simp only [add_off, Nat.add_assoc]; exact hst
        | false =>
          simp only at e2
          generalize hsub : sub c o (len * i.size) = q at e2
          cases q with
          | none => cases e2
          | some old =>
            simp only at e2
            obtain ⟨s, h2, e3, e4⟩ := bind_some e2
            obtain ⟨rfl, hcl⟩ := getC_some e3
            obtain ⟨a, l, fzn⟩ := s
            cases fzn with
            | true => cases e4
            | false =>
              simp only at e4
              obtain ⟨b', h3, e5, e6⟩ := bind_some e4
              obtain ⟨_, h4, e7, e8⟩ := bind_some e6
              obtain ⟨rfl, rfl⟩ := pure_some e8
              simp only [newC] at e5
              obtain ⟨rfl, m1, m2, m3, m4⟩ := newB_some e5
              obtain ⟨s1, s2, s3, s4⟩ := setC_some e7
              have hn : h2.bs.get h2.next = none := by
                cases hg : h2.bs.get h2.next with
                | none => rfl
                | some b => exact absurd (hr.lt _ _ hg) (Nat.lt_irrefl _)
              have hal : b = a ∨ b = l := by
                obtain ⟨a2, l2, f2, x, y⟩ := hlv
                rw [hcl] at x; injection x with x; injection x with x1 x2 _; subst x1; subst x2; exact y
              have hfz := p7 a l hcl
              obtain ⟨hle, rfl⟩ := sub_some hsub
              obtain ⟨q1, q2, q3⟩ := p6.list hle
              have hlen : ((c.drop o).take (len * i.size) ++ xs).length = (len + n) * i.size := by rw [List.length_append, q1.length, q2, hxn, Nat.add_mul]
              have hall : allOne ((c.drop o).take (len * i.size) ++ xs) = true := by
                rw [allOne_iff]; intro y hy; rcases List.mem_append.1 hy with q | q
                · exact (allOne_iff _).1 (allOne_sub p1 _ _) y q
                · exact (allOne_iff _).1 hx1 y q
              rw [lapp_eq] at m3
              -- what the class becomes
              obtain ⟨xx, s4, hxc, hxk⟩ : ∃ xx, h'.cl = h3.cl.set (k + 1) (.mk xx h2.next false) ∧ (xx = h2.next ∨ xx = b) ∧ (xx = b → b = h2.next ∨ o + len * i.size = c.length) := by
                generalize hq : Nat.beq (o + len * i.size) (llen c) = q at s4
                cases q with
                | true => rw [beq_nat, llen_eq] at hq; exact ⟨b, s4, .inr rfl, fun _ => .inr hq⟩
                | false => exact ⟨h2.next, s4, .inl rfl, fun q => .inl q.symm⟩
              have hbn : b ≠ h2.next := fun q => by rw [q, hn] at hb; cases hb
              rcases Nat.lt_or_ge (loc.tot - d0) (len + n) with hroom | hroom
              · -- to new memory
                obtain ⟨cap, w1, rest, g1, g2, g3, g4, g5, g6, g7⟩ := run_grow (P := P) (w := w) (ty := ty) (base := some ⟨loc.blk, loc.sh + o, none⟩) h0 h1 ht hu hd hi hby hzr hzc rfl hxl hxf
                  (fun w' hw' => by simp only [Builtin.firstCells]; exact loadList (by rw [hw']; exact p2) p6 hle) hroom hbd
                have hm := hr.anew (h' := h') (w' := w1) (id := h2.next) (tot := cap) (k := k) (x := xx) (c := (c.drop o).take (len * i.size) ++ xs) (e := e) hn (by omega) (by omega) (by rw [s3, m3]) (by rw [s2, m2]) hcl
                  (by rcases hxc with q | q; exact .inl q; subst q; rcases hal with q | q; exact .inr (.inl q); exact .inr (.inr q))
                  (by have := hr.cls b _ hb; simp only [clsOf] at this; omega) (by rw [s4, m4]) g4 g5 g6 g7
                  (BR.fresh hall (q1.append hxs) (hr.le_add hn _) g4 (.inr (Nat.le_refl _)) (by rw [hlen, hce]; exact Nat.mul_le_mul_right _ g1) (by rw [hce, ← (q1.append hxs).length, hlen, g2, mulsub _ _ _ g1]; exact Nat.le_refl _))
                refine ⟨_, _, w1, g3, hm.1, hm.2, ?_⟩
                have := VR.sle (ρ := ρ.add h2.next ⟨w.heap.size, 0, cap⟩) h2.next 0 (len + n) 0 ⟨w.heap.size, 0, cap⟩ (Rn.add_same _ _ _) (by simpa using g1)
                simpa using this
              · -- in its place
                have hdt : d0 + (len + n) ≤ loc.tot := by omega
                have hbig : (d0 + (len + n)) * i.size ≤ loc.tot * i.size := Nat.mul_le_mul_right _ hdt
                have hbig2 : d0 * i.size + (len + n) * i.size ≤ loc.tot * i.size := by rw [← Nat.add_mul]; exact hbig
                have hln : (len + n) * i.size = len * i.size + n * i.size := Nat.add_mul _ _ _
                have hsub2 : d0 * i.size + (loc.tot - d0) * i.size = loc.tot * i.size := by rw [← Nat.add_mul]; congr 1; omega
                have hst := run_storeCells (P := P) (b := loc.blk) (e := e) (fz := fz) xs' (loc.sh + (o + len * i.size)) 0 cs w p2 (by rw [← hxs.length]; omega)
                  (fun j hj => by simp only [Bool.and_eq_false_iff, decide_eq_false_iff_not]; omega) (hxs.one hx1)
                have hget : ∀ j, j < loc.sh + (o + len * i.size) → (lay cs (loc.sh + (o + len * i.size)) xs')[j]? = cs[j]? := fun j hj => by
                  rw [lay_get _ _ _ _ (by rw [← hxs.length]; omega), if_neg (by omega)]
                have hm := hr.grow (h' := h') (w' := { w with heap := w.heap.setIfInBounds loc.blk (.cells (lay cs (loc.sh + (o + len * i.size)) xs') e fz) }) (id := h2.next) (k := k) (x := xx) (b0 := b) (c := c) (c' := (c.drop o).take (len * i.size) ++ xs) (e := e)
                  (loc := loc) (lc := ⟨loc.blk, loc.sh + o, loc.tot - d0⟩) (cs := cs) (cs' := lay cs (loc.sh + (o + len * i.size)) xs') (fz := fz)
                  hn (by omega) (by omega) (by rw [s3, m3]) (by rw [s2, m2]) hb hcl hal hρ hxc (by rw [s4, m4]) p2 hfz rfl (lay_size _ _ _) rfl
                  (fun q => by
                    have hend := (hxk q).resolve_left hbn
                    refine ⟨fun j y hj => ?_, by simp only [hlen]; omega⟩
                    have hjl : j < c.length := by
                      rcases Nat.lt_or_ge j c.length with q | q
                      · exact q
                      · rw [List.getElem?_eq_none q] at hj; cases hj
                    rw [hget _ (by omega)]
                    exact p6 j y hj)
                  hall
                  (by
                    intro j y hj
                    simp only
                    rcases Nat.lt_or_ge j (len * i.size) with hjl | hjl
                    · rw [List.getElem?_append_left (by rw [q1.length, q2]; exact hjl)] at hj
                      obtain ⟨y', a1, a2⟩ := q1.get hj
                      refine ⟨y', ?_, a2⟩
                      rw [hget _ (by omega)]
                      have := q3 j y' a1
                      rw [← Nat.add_assoc] at *
                      exact this
                    · rw [List.getElem?_append_right (by rw [q1.length, q2]; exact hjl), q1.length, q2] at hj
                      obtain ⟨y', a1, a2⟩ := hxs.get hj
                      refine ⟨y', ?_, a2⟩
                      have hjn : j - len * i.size < xs'.length := by
                        rcases Nat.lt_or_ge (j - len * i.size) xs'.length with q | q
                        · exact q
                        · rw [List.getElem?_eq_none q] at a1; cases a1
                      rw [lay_get _ _ _ _ (by rw [← hxs.length]; omega), if_pos (by omega)]
                      have : loc.sh + o + j - (loc.sh + (o + len * i.size)) = j - len * i.size := by omega
                      rw [this]; exact a1)
                  (by simp only [hlen]; omega) (by simp only [hlen, hce]; exact Nat.mul_le_mul_right _ hroom) (by simp only [hce]; omega) rfl rfl rfl
                refine ⟨_, _, _, run_room h0 h1 ht hu hd hi rfl (hxl w rfl) (hxf w rfl) hroom (by simp only [add_off, Nat.add_assoc]; exact hst), hm.1, hm.2, ?_⟩
                have := VR.sle (ρ := ρ.add h2.next ⟨loc.blk, loc.sh + o, loc.tot - d0⟩) h2.next 0 (len + n) 0 ⟨loc.blk, loc.sh + o, loc.tot - d0⟩ (Rn.add_same _ _ _) (by simpa using hroom)
                simpa using this
      · cases e2
end Go.Ev
/- The built-in functions and conversions that touch memory; ranging over a text. -/
namespace Go.Ev
open Go
variable {P : Program} {w : World} {ρ : Rn}

theorem kindOf_none {u : Nat} {d : TypeDesc} (h : kindOf P u = none) (hu : P.underlying u = some d) : ∀ k, d ≠ .int k := by
  rintro k rfl
  unfold kindOf at h
  rw [hu] at h
  cases h

theorem appendV_sound {t u : Nat} {s x v : V} {s' x' : Value} {h h' : H} {ats : Array TypeId} {ty : Nat} (hr : HR P ρ h w) (e : appendV P t u s x h = some (v, h')) (hs : VR ρ s s') (hx : VR ρ x x')
    (h0 : ats[0]? = some t) (h1 : ats[1]? = some u) : SV P ρ h w (Builtin.append_ ats ty #[s', x']) v h' := by
  simp only [appendV] at e
  generalize hk : kindOf P u = q at e
  cases q with
  | some _ => cases e
  | none =>
    simp only at e
    generalize hu : P.underlying u = q at e
    cases q with
    | none => cases e
    | some d =>
      simp only at e
      have hd := kindOf_none hk hu
      generalize he : elemOf P t = q at e
      cases q with
      | none => cases e
      | some el =>
        simp only at e
        have ht := elemOf_some he
        generalize hi : P.info? el = q at e
        cases q with
        | none => cases e
        | some i =>
          simp only at e
          generalize g1 : Nat.blt 0 i.bytes = q1, g2 : Nat.blt 0 i.size = q2, g3 : zcells P el = q3 at e
          split at e
          · rename_i z
            rw [blt_nat] at g1 g2
            generalize g4 : Nat.beq (llen z) i.size = q at e
            cases q with
            | false => cases e
            | true =>
              simp only at e
              rw [beq_nat, llen_eq] at g4
              obtain ⟨y, h2, e1, e2⟩ := bind_some e
              obtain ⟨xs, n⟩ := y
              obtain ⟨rfl, x1, xn, xs', xv, xr⟩ := elemsOf_sound hr e1 hx
              simp only at e2
              have hlen : xs'.length = n * i.size := by rw [← xv.length]; exact xn
              have hxl : ∀ w', w'.heap = w.heap → (Builtin.lenOf x').run P w' = .ok n w' := fun w' hw => (xr w' hw).1
              have hxf : ∀ w', w'.heap = w.heap → (Builtin.firstCells i.size n x').run P w' = .ok xs'.toArray w' := fun w' hw => by
                have := (xr w' hw).2 n (Nat.le_refl _)
                rw [List.take_of_length_le (by omega)] at this
                exact this
              cases n with
              | zero =>
                simp only at e2
                have hnil : xs' = [] := List.eq_nil_of_length_eq_zero (by omega)
                subst hnil
                have done : ∀ base len c, s' = .slice base len c → len ≤ c → (∃ ss, v = ss ∧ VR ρ ss s') → h' = h2 → SV P ρ h2 w (Builtin.append_ ats ty #[s', x']) v h' := by
                  intro base len c hs' hle hv hh
                  subst hh
                  obtain ⟨ss, rfl, hv⟩ := hv
                  refine ⟨ρ, s', w, ?_, Ext.refl _ _ _, hr, hv⟩
                  have := run_room (P := P) (w := w) (w' := w) (ty := ty) (base := base) (sLen := len) (sCap := c) h0 h1 ht hu hd hi hs' (hxl w rfl) (hxf w rfl) (by simpa using hle) (by cases base <;> rfl)
                  rw [this, hs']; rfl
                cases s with
                | nils =>
                  simp only at e2
                  obtain ⟨rfl, rfl⟩ := pure_some e2
                  cases hs
                  exact done none 0 0 rfl (Nat.le_refl _) ⟨_, rfl, .nils⟩ rfl
                | sl b o len cap =>
                  simp only at e2
                  obtain ⟨rfl, rfl⟩ := pure_some e2
                  have hs2 := hs
                  cases hs with
                  | slx _ _ _ c loc hρ hc => exact done _ _ _ rfl hc ⟨_, rfl, hs2⟩ rfl
                  | sle _ _ _ d loc hρ hc => exact done _ _ _ rfl (by omega) ⟨_, rfl, hs2⟩ rfl
                | _ => cases e2
              | succ m =>
                simp only at e2
                cases s with
                | nils =>
                  simp only at e2
                  generalize hb : Nat.ble ((2 * (m + 1) + 1024) * i.bytes) 281474976710656 = q at e2
                  cases q with
                  | false => cases e2
                  | true =>
                    simp only at e2
                    rw [ble_nat] at hb
                    obtain ⟨b, h3, e3, e4⟩ := bind_some e2
                    obtain ⟨rfl, rfl⟩ := pure_some e4
                    have hsize : szOf P el = some i.size := by unfold szOf; rw [hi]
                    have hce : P.cellsOf el = i.size := szOf_cells hsize
                    unfold zcells at g3
                    split at g3
                    · rename_i y hy
                      unfold zeroOf at hy
                      rw [hi] at hy
                      simp only at hy
                      split at hy
                      · rename_i v0 hv0
                        have hrun : ∀ w', (zeroValue el).run P w' = .ok v0 w' := fun w' => by simp [zeroValue, r_info hi, hv0]
                        obtain ⟨l', a, bb, _⟩ := cells_sound g3 (ofV_sound (ρ := ρ) hy)
                        have hzc : v0.cells.size = i.size := by rw [a]; simp [← bb.length, g4]
                        cases hs
                        obtain ⟨cap, w1, rest, q1, q2, q3, q4, q5, q6, q7⟩ := run_grow (P := P) (w := w) (ty := ty) (base := none) (sLen := 0) (sCap := 0) (n := m + 1) (xs' := xs') (olds' := []) h0 h1 ht hu hd hi g1 hrun hzc rfl hxl hxf
                          (fun w' _ => rfl) (by omega) (by simpa using hb)
                        simp only [Nat.zero_add, List.nil_append] at q1 q2 q3 q4
                        have hm := newG_sound hr e3 x1 xv (w' := w1) (cap := cap) q4 (.inr (Nat.le_refl _)) q5 q6 q7 (by rw [xn, hce]; exact Nat.mul_le_mul_right _ q1)
                          (by rw [hce, hlen, q2, mulsub _ _ _ q1]; exact Nat.le_refl _)
                        refine ⟨_, _, w1, q3, hm.1, hm.2, ?_⟩
                        have := VR.sle (ρ := ρ.add b ⟨w.heap.size, 0, cap⟩) b 0 (m + 1) 0 ⟨w.heap.size, 0, cap⟩ (Rn.add_same _ _ _) (by simpa using q1)
                        simpa using this
                      · cases hy
                    · cases g3
                | sl b o len cap =>
                  simp only at e2
                  generalize hb : Nat.ble ((2 * (len + (m + 1)) + 1024) * i.bytes) 281474976710656 = q at e2
                  cases q with
                  | false => cases e2
                  | true =>
                    simp only at e2
                    rw [ble_nat] at hb
                    exact appendB_sound hr h0 h1 ht hu hd hi g1 g2 g3 g4 hs hxl hxf xv x1 xn hb e2
                | _ => cases e2
          · cases e

theorem copyV_sound {t : Nat} {d x v : V} {d' x' : Value} {h h' : H} {ats : Array TypeId} {ty : Nat} (hr : HR P ρ h w) (e : copyV P t d x h = some (v, h')) (hd : VR ρ d d') (hx : VR ρ x x')
    (h0 : ats[0]? = some t) : SV P ρ h w (Builtin.copy_ ats ty #[d', x']) v h' := by
  have a0 : (#[d', x'] : Array Value)[0]? = some d' := rfl
  have a1 : (#[d', x'] : Array Value)[1]? = some x' := rfl
  simp only [copyV] at e
  generalize he : elemOf P t = q at e
  cases q with
  | none => cases e
  | some el =>
    simp only at e
    have ht := elemOf_some he
    generalize hs : szOf P el = q at e
    cases q with
    | none => cases e
    | some sz =>
      simp only at e
      cases d with
      | nils =>
        simp only at e
        obtain ⟨y, h2, e1, e2⟩ := bind_some e
        obtain ⟨rfl, rfl⟩ := pure_some e2
        obtain ⟨xs, n⟩ := y
        obtain ⟨rfl, x1, xn, xs', xv, xr⟩ := elemsOf_sound hr e1 hx
        obtain ⟨r1, r2⟩ := xr w rfl
        cases hd
        refine ⟨ρ, goInt 0, w, ?_, Ext.refl _ _ _, hr, .int _ _⟩
        simp only [Builtin.copy_, h0, a0, a1, Sem.run_bind, r_und ht, Result.andThen_ok, r1, r_size hs, Sem.run_pure, Nat.min_def]
        have : (if n ≤ 0 then n else 0) = 0 := by split <;> omega
        simp only [this, r2 0 (Nat.zero_le _), Result.andThen_ok]
        rfl
      | sl b o len cap =>
        simp only at e
        obtain ⟨y, h2, e1, e2⟩ := bind_some e
        obtain ⟨xs, n⟩ := y
        obtain ⟨rfl, x1, xn, xs', xv, xr⟩ := elemsOf_sound hr e1 hx
        obtain ⟨r1, r2⟩ := xr w rfl
        obtain ⟨y, h3, e3, e4⟩ := bind_some e2
        obtain ⟨c, ee, k⟩ := y
        obtain ⟨_, h4, e5, e6⟩ := bind_some e4
        generalize hov : over c o (ltake (nmin n len * sz) xs) = q at e6
        cases q with
        | none => cases e6
        | some c' =>
          simp only at e6
          obtain ⟨_, h5, e7, e8⟩ := bind_some e6
          obtain ⟨rfl, rfl⟩ := pure_some e8
          rw [ltake_eq, nmin_eq] at hov
          rw [nmin_eq]
          have hmin : Nat.min n len = min n len := rfl
          have main : ∀ loc c0, ρ b = some loc → d' = .slice (some ⟨loc.blk, loc.sh + o, none⟩) len c0 → SV P ρ h2 w (Builtin.copy_ ats ty #[d', x']) (.int .i64 (.ofNat (min n len))) h' := by
            intro loc c0 hρ hd'
            subst hd'
            obtain ⟨w', q1, q2, q3⟩ := put_sound hr e3 e5 hov e7 hρ (xv.take _) (by rw [allOne_iff]; exact fun y hy => (allOne_iff _).1 x1 y (List.mem_of_mem_take hy))
            refine ⟨ρ, goInt (min n len : Nat), w', ?_, q2, q3, .int _ _⟩
            simp only [Builtin.copy_, h0, a0, a1, Sem.run_bind, r_und ht, Result.andThen_ok, r1, r_size hs, hmin, r2 (min n len) (Nat.min_le_left _ _), q1, Sem.run_pure]
          cases hd with
          | slx _ _ _ c0 loc hρ hc => exact main loc c0 hρ rfl
          | sle _ _ _ d0 loc hρ hc => exact main loc _ hρ rfl
      | _ => cases e

theorem mark_row {b e : Nat} {cs : Array Value} (h : w.heap[b]? = some (.cells cs e (0, 0))) :
    (markStringish ⟨b, 0, none⟩).run P w = .ok () { w with heap := w.heap.setIfInBounds b (.cells cs e (cs.size, cs.size + 1)) } := by
  have hb : b < w.heap.size := by
    rcases Nat.lt_or_ge b w.heap.size with q | q
    · exact q
    · rw [Array.getElem?_eq_none q] at h; cases h
  have hs : w.shape? b = some (e, cs.size) := by simp [World.shape?, h]
  have hf : w.freeze ⟨b, cs.size, none⟩ 1 = { w with heap := w.heap.setIfInBounds b (.cells cs e (cs.size, cs.size + 1)) } := by
    simp only [World.freeze]
    rw [if_neg (by omega)]
    congr 1
    apply Array.ext_getElem?
    intro i
    rw [Array.getElem?_modify, Array.getElem?_setIfInBounds]
    by_cases hi : b = i
    · subst hi; rw [if_pos rfl, if_pos rfl, if_pos hb, h]; rfl
    · rw [if_neg hi, if_neg hi]
  simp only [markStringish, shape, Sem.run_bind]
  have : (Sem.shape b Sem.pure).run P w = .ok (some (e, cs.size)) w := by simp only [Sem.run, hs]
  rw [this]
  simp only [Result.andThen_ok, freeze, Sem.run, hf]

theorem shape_cells {b e : Nat} {cs : Array Value} {fz : Nat × Nat} (h : w.heap[b]? = some (.cells cs e fz)) : (shape b).run P w = .ok (some (e, cs.size)) w := by
  simp only [shape, Sem.run, World.shape?, h]
theorem seenAt_cells {b o e : Nat} {cs : Array Value} {fz : Nat × Nat} (h : w.heap[b]? = some (.cells cs e fz)) : (Conv.seenAt ⟨b, o, none⟩).run P w = .ok ⟨b, o, none⟩ w := by
  have : (viewAt b).run P w = .ok none w := by
    simp only [viewAt, Sem.run_bind, shape_cells h, Result.andThen_ok]
    rfl
  simp only [Conv.seenAt, Sem.run_bind, this, Result.andThen_ok]
  rfl
theorem cellsIn_cells {b e : Nat} {cs : Array Value} {fz : Nat × Nat} (h : w.heap[b]? = some (.cells cs e fz)) : (cellsIn b).run P w = .ok (some cs.size) w := by
  simp only [cellsIn, Sem.run_bind, shape_cells h, Result.andThen_ok]
  rfl

theorem convE_sound {s d : Nat} {x v : V} {x' : Value} {h h' : H} (hr : HR P ρ h w) (e : convE P s d x h = some (v, h')) (hx : VR ρ x x') : SV P ρ h w (convert s d x') v h' := by
  cases x with
  | ptr b o =>
    cases hx with
    | ptr _ _ loc hρ =>
    simp only [convE] at e
    generalize hs : P.underlying s = q1, hd : P.underlying d = q2 at e
    split at e
    · rename_i t
      obtain ⟨y, h2, e1, e2⟩ := bind_some e
      obtain ⟨rfl, hb⟩ := getB_some e1
      split at e2
      · rename_i c ee
        generalize g1 : Nat.blt o (llen c) = q1, g2 : szOf P t = q2 at e2
        split at e2
        · rename_i n
          rw [blt_nat, llen_eq] at g1
          obtain ⟨rfl, rfl⟩ := pure_some e2
          obtain ⟨p1, p2, cs, p3, p4, p5⟩ := hr.blk b _ loc hb trivial hρ
          refine ⟨ρ, _, w, ?_, Ext.refl _ _ _, hr, .ptr _ _ loc hρ⟩
          simp only [convert, Sem.run_bind, r_und hs, r_und hd, Result.andThen_ok, Conv.unsafePointer, seenAt_cells p3, cellsIn_cells p3, r_size g2]
          have : (decide (loc.sh + o ≥ cs.size) && Option.isNone (none : Option Nat)) = false := by simp; omega
          simp only [this]
          rfl
        · cases e2
      · cases e2
    · rename_i u
      obtain ⟨y, h2, e1, e2⟩ := bind_some e
      obtain ⟨rfl, hb⟩ := getB_some e1
      split at e2
      · rename_i c ee
        generalize g1 : liesAt P P.depth ee (llen c / P.cellsOf ee) o u 1 = q1, g2 : szOf P u = q2 at e2
        split at e2
        · rename_i n
          rw [llen_eq] at g1
          obtain ⟨rfl, rfl⟩ := pure_some e2
          obtain ⟨p1, p2, cs, p3, p4, p5⟩ := hr.blk b _ loc hb trivial hρ
          refine ⟨ρ, _, w, ?_, Ext.refl _ _ _, hr, .ptr _ _ loc hρ⟩
          have hva : (variablesAt ⟨loc.blk, loc.sh + o, none⟩ u 1).run P w = .ok true w := by
            have hp : (program).run P w = .ok P w := rfl
            simp only [variablesAt, Sem.run_bind, hp, Result.andThen_ok, shape_cells p3, Sem.run_pure, p4, p1, Nat.zero_add, g1]
          simp only [convert, Sem.run_bind, r_und hs, r_und hd, Result.andThen_ok, Conv.unsafePointer, seenAt_cells p3, r_size g2, hva]
          simp only [Bool.or_true, if_true]
          rfl
        · cases e2
      · cases e2
    · cases e
  | str l n =>
    obtain ⟨ss, rfl, hl, hn⟩ := hx.str_inv
    simp only [convE] at e
    generalize hs : P.underlying s = q1, hd : P.underlying d = q2 at e
    split at e
    · rename_i el
      generalize g1 : P.underlying el = q1, g2 : szOf P el = q2 at e
      split at e
      · obtain ⟨b, h2, e1, e2⟩ := bind_some e
        obtain ⟨rfl, rfl⟩ := pure_some e2
        have hsz : ss.size = n := by rw [← hn, ← hl, ofBytes_size]
        -- what is drawn
        obtain ⟨cap, w0, hch, hcap0, e3, e4, e5, e6⟩ : ∃ cap w0, (choose (.appendCap ss.size 0 el)).run P w = .ok cap w0 ∧ ss.size ≤ cap ∧ w0.heap = w.heap ∧ w0.os = w.os ∧ w0.output = w.output ∧ w0.tape = w.tape := by
          refine ⟨_, _, rfl, ?_, rfl, rfl, rfl, rfl⟩
          simp only [Question.cut]
          omega
        have hcap : n ≤ cap := by rw [← hsz]; exact hcap0
        let row : List Value := (ss.data.toList.map fun b => Value.int .u8 (b.toNat : Int)) ++ List.replicate (cap - n) (.int .u8 0)
        have hrow : (ss.data.map (fun b => Value.int .u8 (b.toNat : Int)) ++ Array.replicate (cap - ss.size) (.int .u8 0)) = row.toArray := by
          apply Array.ext'
          simp [row, hsz]
        have hrl : row.length = cap := by
          simp only [row, List.length_append, List.length_map, List.length_replicate]
          have : ss.data.toList.length = n := by rw [← hsz, Array.length_toList]; rfl
          omega
        let w1 : World := { w0 with heap := w.heap.push (.cells row.toArray el (0, 0)) }
        have hw1 : w1.heap[w.heap.size]? = some (.cells row.toArray el (0, 0)) := by simp [w1]
        have hmk := mark_row (P := P) hw1
        have hset : w1.heap.setIfInBounds w.heap.size (.cells row.toArray el (row.toArray.size, row.toArray.size + 1)) = w.heap.push (.cells row.toArray el (row.toArray.size, row.toArray.size + 1)) := by
          apply Array.ext_getElem?
          intro i
          rw [Array.getElem?_setIfInBounds, Array.getElem?_push]
          by_cases hi : w.heap.size = i
          · subst hi; simp [w1]
          · have hi2 : ¬ i = w.heap.size := fun q => hi q.symm
            simp only [if_neg hi, w1, Array.getElem?_push, if_neg hi2]
        rw [hset] at hmk
        have hce : P.cellsOf el = 1 := szOf_cells g2
        have hbl : (cellsOfBytes l).length = n := by rw [cellsOfBytes_eq, List.length_map, hn]
        have hv : VRs ρ (cellsOfBytes l) (ss.data.toList.map fun b => Value.int .u8 (b.toNat : Int)) := by rw [← hl, ofBytes_data]; exact bytes_VRs _
        have hm := newG_sound hr e1 (bytes_allOne l) hv (rest := List.replicate (cap - n) (.int .u8 0)) (w' := { w1 with heap := w.heap.push (.cells row.toArray el (row.toArray.size, row.toArray.size + 1)) }) (cap := cap) rfl
          (.inl (by simp [row])) e4 e5 e6 (by rw [hbl, hce]; omega) (by rw [hce, ← hv.length, hbl]; simp; omega)
        refine ⟨_, .slice (some ⟨w.heap.size, 0, none⟩) ss.size cap, _, ?_, hm.1, hm.2, ?_⟩
        · have hnr : (newRow el row.toArray).run P w0 = .ok ⟨w.heap.size, 0, none⟩ w1 := by
            have : (newRow el row.toArray).run P w0 = .ok ⟨w0.heap.size, 0, none⟩ { w0 with heap := w0.heap.push (.cells row.toArray el) } := rfl
            rw [this, e3]
          simp only [convert, Sem.run_bind, r_und hs, r_und hd, Result.andThen_ok, r_und g1, Conv.stringToBytes, hch, hrow, hnr, hmk, Sem.run_pure]
        · have := VR.sle (ρ := ρ.add b ⟨w.heap.size, 0, cap⟩) b 0 n 0 ⟨w.heap.size, 0, cap⟩ (Rn.add_same _ _ _) (by simpa using hcap)
          rw [hsz]
          simpa using this
      · cases e
    · cases e
  | _ => cases e

theorem run_loadBytes : ∀ (s : List UInt8) (b o : Nat) (acc : ByteArray), (∀ j x, s[j]? = some x → w.cell? ⟨b, o + j, none⟩ = some (.int .u8 (x.toNat : Int))) →
    ∃ r, (loadBytes ⟨b, o, none⟩ acc s.length).run P w = .ok r w ∧ ofBytes r = ofBytes acc ++ s.map (·.toNat)
  | [], b, o, acc, _ => ⟨acc, rfl, by simp⟩
  | x :: s, b, o, acc, h => by
    obtain ⟨r, h1, h2⟩ := run_loadBytes s b (o + 1) (acc.push x) (fun j y hj => by
      have := h (j + 1) y (by simpa using hj)
      rw [← this]; congr 2; omega)
    refine ⟨r, ?_, ?_⟩
    · have h0 := h 0 x rfl
      simp only [List.length_cons, loadBytes, Sem.run_bind, run_load, Nat.add_zero] at h0 ⊢
      simp only [h0, Result.andThen_ok, add_off]
      have : (x.toNat : Int).toNat.toUInt8 = x := by simp
      rw [this]
      exact h1
    · rw [h2, ofBytes_data, ofBytes_data]
      simp
theorem liesAt_own {e off n count : Nat} (hs : P.cellsOf e = 1) (h : off + n ≤ count) : liesAt P P.depth e count off e n = true := by
  have hd : P.depth = (2 * (P.types.size + Made.depth) + 1) + 1 := rfl
  have hl : sameLayout P P.depth e e = true := by rw [hd]; simp [sameLayout]
  have hr : rowAt P (sameLayout P P.depth · e) P.depth e count off n = true := by
    generalize hf : (fun x => sameLayout P P.depth x e) = f
    have hfe : f e = true := by rw [← hf]; exact hl
    rw [hd]
    simp [rowAt, hs, Nat.mod_one, hfe, h]
  rw [hd, liesAt]
  rw [hr]
  rfl

theorem freeze_row {b o n e : Nat} {cs : Array Value} {fz : Nat × Nat} (h : w.heap[b]? = some (.cells cs e fz)) (hn : n ≠ 0) :
    ∃ fz', w.freeze ⟨b, o, none⟩ n = { w with heap := w.heap.setIfInBounds b (.cells cs e fz') } := by
  have hb : b < w.heap.size := by
    rcases Nat.lt_or_ge b w.heap.size with q | q
    · exact q
    · rw [Array.getElem?_eq_none q] at h; cases h
  obtain ⟨lo, hi⟩ := fz
  refine ⟨if lo == hi then (o, o + n) else (min lo o, max hi (o + n)), ?_⟩
  simp only [World.freeze]
  rw [if_neg hn]
  congr 1
  apply Array.ext_getElem?
  intro i
  rw [Array.getElem?_modify, Array.getElem?_setIfInBounds]
  by_cases hi' : b = i
  · subst hi'; rw [if_pos rfl, if_pos rfl, if_pos hb, h]; rfl
  · rw [if_neg hi', if_neg hi']


theorem strE_sound {pt : Nat} {l : List V} {l' : List Value} {v : V} {h h' : H} {ats : Array TypeId} {ty : Nat} (hr : HR P ρ h w) (e : strE P pt l h = some (v, h')) (hl : VRs ρ l l') (h0 : ats[0]? = some pt) :
    SV P ρ h w (Builtin.unsafeString_ ats ty l'.toArray) v h' := by
  unfold strE at e
  split at e
  · rename_i p n
    obtain ⟨p', n', rfl, hp, hnv⟩ := hl.two_inv
    generalize hn : natOf n = qn at e
    match qn, hn, e with
    | none, hn, e => cases e
    | some 0, hn, e =>
      simp only at e
      obtain ⟨k, rfl⟩ := natOf_sound hn hnv
      have q : (asIntOf (.int k (Int.ofNat 0))).run P w = .ok (k, Int.ofNat 0) w := rfl
      have hz : ∀ a, p' = .pointer a → (Builtin.unsafeString_ ats ty [p', .int k (Int.ofNat 0)].toArray).run P w = .ok (.string .empty) w := by
        rintro a rfl
        cases a with
        | none =>
          refine (run_of_bind (a := asInt (.int k (Int.ofNat 0))) rfl).trans ?_
          simp only [Sem.run_bind, asInt, q, Result.andThen_ok, h0, Sem.run_pure]
          rfl
        | some a =>
          refine (run_of_bind (a := asInt (.int k (Int.ofNat 0))) rfl).trans ?_
          simp only [Sem.run_bind, asInt, q, Result.andThen_ok, h0, Sem.run_pure]
          rfl
      have hes : VR ρ (.str [] 0) (.string .empty) := .str _ _ _ rfl rfl
      split at e
      · obtain ⟨rfl, rfl⟩ := pure_some e
        cases hp
        exact ⟨ρ, _, w, hz _ rfl, Ext.refl _ _ _, hr, hes⟩
      · obtain ⟨rfl, rfl⟩ := pure_some e
        cases hp
        exact ⟨ρ, _, w, hz _ rfl, Ext.refl _ _ _, hr, hes⟩
      · cases e
    | some (m + 1), hn, e =>
      simp only at e
      obtain ⟨k, rfl⟩ := natOf_sound hn hnv
      cases p with
      | ptr b o =>
        simp only at e
        generalize hu : P.underlying pt = qu at e
        split at e
        · rename_i u
          obtain ⟨y, h2, e1, e2⟩ := bind_some e
          obtain ⟨c, ee, kk⟩ := y
          obtain ⟨rfl, b0, hb, hlv, hcb, hcs⟩ := cellsOf_some e1
          simp only at e2
          cases kk with
          | zero => cases e2
          | succ kk =>
            have hcs' : b0 = .cells c ee (kk + 1) := hcs.resolve_right (fun q => by omega)
            subst hcs'
            simp only at e2
            generalize g1 : Nat.beq ee u = q1, g2 : Nat.ble m 9223372036854775806 = q2, g3 : Nat.beq o 0 = q3, g4 : sub c o (m + 1) = q4, g5 : szOf P ee = q5 at e2
            split at e2
            · rename_i lst
              rw [beq_nat] at g1 g3
              rw [ble_nat] at g2
              subst g1; subst g3
              generalize hby : bytesOfCells lst = qb at e2
              cases qb with
              | none => cases e2
              | some r =>
                simp only at e2
                obtain ⟨s, h3, e3, e4⟩ := bind_some e2
                obtain ⟨rfl, hcl⟩ := getC_some e3
                obtain ⟨a, l, fzn⟩ := s
                simp only at e4
                obtain ⟨_, h4, e5, e6⟩ := bind_some e4
                obtain ⟨rfl, rfl⟩ := pure_some e6
                obtain ⟨s1, s2, s3, s4⟩ := setC_some e5
                obtain ⟨hle, rfl⟩ := sub_some g4
                cases hp with
                | ptr _ _ loc hρ =>
                obtain ⟨p1, cs, fz, p2, p3, p4, p5, p6, p7⟩ := hr.blk b _ loc hb hlv hρ
                have hce : P.cellsOf ee = 1 := szOf_cells g5
                have hal : b = a ∨ b = l := by
                  obtain ⟨a2, l2, f2, x, y⟩ := hlv
                  rw [hcl] at x; injection x with x; injection x with x1 x2 _; subst x1; subst x2; exact y
                obtain ⟨q1, q2, q3⟩ := p6.list hle
                obtain ⟨st, hst1, hst2⟩ := bytes_of hby q1
                have hstl : st.length = m + 1 := by
                  have := congrArg List.length hst2
                  rw [q2, List.length_map] at this; exact this.symm
                obtain ⟨rb, hld, hob⟩ := run_loadBytes (P := P) (w := w) st loc.blk (loc.sh + 0) .empty (fun j x hj => by
                  rw [cell_at p2]
                  refine q3 j _ ?_
                  rw [hst2, List.getElem?_map, hj]; rfl)
                rw [hstl] at hld
                obtain ⟨fz', hfr⟩ := freeze_row (w := w) (o := loc.sh + 0) (n := m + 1) p2 (by omega)
                have hm := hr.freeze (h' := h') (w' := { w with heap := w.heap.setIfInBounds loc.blk (.cells cs ee fz') }) hb hcl hal hρ s1 s2 s3 s4 p2 rfl rfl rfl rfl
                refine ⟨ρ, .string rb, _, ?_, hm.1, hm.2, .str _ _ _ ?_ ?_⟩
                · have q : (asIntOf (.int k (Int.ofNat (m + 1)))).run P w = .ok (k, Int.ofNat (m + 1)) w := rfl
                  have hva : (variablesAt ⟨loc.blk, loc.sh + 0, none⟩ ee (m + 1)).run P w = .ok true w := by
                    have hp : (program).run P w = .ok P w := rfl
                    have := liesAt_own (P := P) (e := ee) (off := loc.sh + 0) (n := m + 1) (count := cs.size / P.cellsOf ee) hce (by rw [hce, Nat.div_one]; omega)
                    simp only [variablesAt, Sem.run_bind, hp, Result.andThen_ok, shape_cells p2, Sem.run_pure, this]
                  have hel : (Go.elemOf pt).run P w = .ok ee w := by simp only [Go.elemOf, Sem.run_bind, r_und hu, Result.andThen_ok]; rfl
                  have n1 : ¬ ((Int.ofNat (m + 1)) < 0) := by simp; omega
                  have n2 : ¬ ((Int.ofNat (m + 1)) > IntKind.i64.max) := by simp [IntKind.max, IntKind.signed, IntKind.bits]; omega
                  have n3 : ¬ ((Int.ofNat (m + 1)) = 0) := by simp; omega
                  have hfz : (freeze ⟨loc.blk, loc.sh + 0, none⟩ (m + 1)).run P w = .ok () { w with heap := w.heap.setIfInBounds loc.blk (.cells cs ee fz') } := by
                    simp only [freeze, Sem.run, hfr]
                  have hto : (Int.ofNat (m + 1)).toNat = m + 1 := rfl
                  refine (run_of_bind (a := asInt (.int k (Int.ofNat (m + 1)))) rfl).trans ?_
                  simp only [Sem.run_bind, asInt, q, Result.andThen_ok, h0, Sem.run_pure, if_neg n1, if_neg n2, if_neg n3, hel, hto, hva, if_true, hld, hfz]
                · rw [hob, hst1]; rfl
                · rw [hst1, List.length_map, hstl]
            · cases e2
        · cases e
      | _ => cases e
  · cases e

theorem rangeV_sound {t : Nat} {x v : V} {x' : Value} {h h' : H} (hr : HR P ρ h w) (e : rangeV P t x h = some (v, h')) (hx : VR ρ x x') : SV P ρ h w (Instr.range t x') v h' := by
  cases x with
  | str l n =>
    obtain ⟨s, rfl, hl, hn⟩ := hx.str_inv
    simp only [rangeV] at e
    generalize hu : P.underlying t = q at e
    split at e
    · obtain ⟨b, h2, e1, e2⟩ := bind_some e
      obtain ⟨rfl, rfl⟩ := pure_some e2
      obtain ⟨rfl, n1, n2, n3, n4⟩ := newB_some e1
      have hnn : h.bs.get h.next = none := by
        cases hg : h.bs.get h.next with
        | none => rfl
        | some b => exact absurd (hr.lt _ _ hg) (Nat.lt_irrefl _)
      have hm := hr.add (h' := h') (w' := { w with heap := w.heap.push (.stringIter s 0) }) (tot := 0) (b := .iter l 0) (o := .stringIter s 0) hnn (by omega) (by omega) n3 n2 (fun _ _ => by rw [n4]) (fun hp => absurd hp (by simp [clsOf])) rfl rfl rfl rfl
        ⟨rfl, s, by simp, hl⟩
      refine ⟨_, _, _, ?_, hm.1, hm.2, .ptr _ 0 _ (Rn.add_same _ _ _)⟩
      simp only [Instr.range, Sem.run_bind, r_und hu, Result.andThen_ok, Sem.run_pure]
      rfl
    · cases e
  | map r =>
    simp only [rangeV] at e
    generalize hu : P.underlying t = q at e
    split at e
    · obtain ⟨b, h1, e1, e2⟩ := bind_some e
      obtain ⟨rfl, hb⟩ := getB_some e1
      cases hx with
      | map _ loc hρ =>
        have key : ∀ (since : Nat) (es' : Array MapEntry), w.heap[loc.blk]? = some (.map es' since) → (M.bind (newB (.mit r since)) fun b => M.pure (.ptr b 0)) h1 = some (v, h') → SV P ρ h1 w (Instr.range t (.map (some loc.blk))) v h' := by
          intro since es' hw e3
          obtain ⟨b2, h2, e4, e5⟩ := bind_some e3
          obtain ⟨rfl, rfl⟩ := pure_some e5
          obtain ⟨rfl, n1, n2, n3, n4⟩ := newB_some e4
          have hnn : h1.bs.get h1.next = none := by
            cases hg : h1.bs.get h1.next with
            | none => rfl
            | some b => exact absurd (hr.lt _ _ hg) (Nat.lt_irrefl _)
          have hle := hr.le_add hnn ⟨w.heap.size, 0, 0⟩
          have hm := hr.add (h' := h') (w' := { w with heap := w.heap.push (.mapIter (some loc.blk) since #[] since) }) (tot := 0) (b := .mit r since) (o := .mapIter (some loc.blk) since #[] since) hnn (by omega) (by omega) n3 n2 (fun _ _ => by rw [n4]) (fun hp => absurd hp (by simp [clsOf])) rfl rfl rfl rfl
            ⟨loc, hle _ _ hρ, rfl, by simp⟩
          refine ⟨_, _, _, ?_, hm.1, hm.2, .ptr _ 0 _ (Rn.add_same _ _ _)⟩
          have hobj := r_obj (P := P) hw (by intro _ _ _ h; cases h)
          simp only [Instr.range, Sem.run_bind, r_und hu, hobj, Result.andThen_ok, Sem.run_pure]
          rfl
        split at e2
        · rename_i es cl
          obtain ⟨es', hw, _⟩ := hr.blk r _ loc hb trivial hρ
          exact key cl es' hw e2
        · rename_i k es
          obtain ⟨es', hw, _⟩ := hr.blk r _ loc hb trivial hρ
          rw [llen_eq] at e2
          exact key es.length es' hw e2
        · cases e2
    · cases e
  | _ => cases e

theorem nextV_sound {x v : V} {x' : Value} {str : Bool} {ty : Nat} {h h' : H} (hr : HR P ρ h w) (e : nextV x str h = some (v, h')) (hx : VR ρ x x') : SV P ρ h w (Instr.next x' str ty) v h' := by
  unfold nextV at e
  split at e
  · cases e
  · split at e
    · rename_i b
      obtain ⟨y, h2, e1, e2⟩ := bind_some e
      obtain ⟨rfl, hb⟩ := getB_some e1
      split at e2
      · rename_i l p
        cases hx with
        | ptr _ _ loc hρ =>
        obtain ⟨hsh, s, hw, hs⟩ := hr.blk b _ loc hb trivial hρ
        have hin : loc.blk < w.heap.size := hr.inb _ _ hρ
        have hobj := r_obj (P := P) hw (by intro _ _ _ h; cases h)
        have hlen : l.length = s.size := by rw [← hs, ofBytes_size]
        generalize hn : nth l p = q at e2
        rw [nth_eq] at hn
        cases q with
        | none =>
          obtain ⟨rfl, rfl⟩ := pure_some e2
          have hp : ¬ p < s.size := by
            intro hlt
            rw [List.getElem?_eq_getElem (by omega)] at hn
            cases hn
          refine ⟨ρ, .tuple #[.bool false], w, ?_, Ext.refl _ _ _, hr, .tup _ [.bool false] (.cons _ _ _ _ (.bool _) .nil)⟩
          rw [hsh]
          simp only [Instr.next, Sem.run_bind, hobj, Result.andThen_ok, if_neg hp, Sem.run_pure]
        | some c =>
          simp only at e2
          generalize hc : Nat.blt c 128 = q at e2
          cases q with
          | false => cases e2
          | true =>
            simp only at e2
            rw [blt_nat] at hc
            obtain ⟨_, h3, e3, e4⟩ := bind_some e2
            obtain ⟨rfl, rfl⟩ := pure_some e4
            simp only [putIter] at e3
            obtain ⟨b0, b1, u1, u2, u3, u4, u5, u6⟩ := updB_some e3
            rw [hb] at u1; injection u1 with u1; subst u1
            simp only at u2; injection u2 with u2; subst u2
            have hlt : p < s.size := by
              rcases Nat.lt_or_ge p s.size with q | q
              · exact q
              · rw [List.getElem?_eq_none (by omega)] at hn; cases hn
            have hat : (s.get! p).toNat = c := by
              rw [← hs, ofBytes_get] at hn
              have hpl : p < s.data.toList.length := by rw [Array.length_toList]; exact hlt
              rw [List.getElem?_eq_getElem hpl] at hn
              simp only [Option.map_some] at hn
              injection hn with hn
              rw [← hn]
              congr 1
              show s.data[p]! = _
              rw [getElem!_pos s.data p hlt]
              simp
            have hdec : Utf8.decode s p = (c, 1) := by
              unfold Utf8.decode
              simp only [Nat.add_zero, hat]
              rw [if_pos (by omega)]
            have hm := hr.obj (b' := .iter l (p + 1)) (w' := { w with heap := w.heap.setIfInBounds loc.blk (.stringIter s (p + 1)) }) (o := .stringIter s (p + 1)) hb hρ rfl rfl trivial (fun _ => by simp) u3 u4 u5 u6 rfl rfl rfl rfl
              ⟨hsh, s, by rw [Array.getElem?_setIfInBounds, if_pos rfl, if_pos hin], hs⟩
            refine ⟨ρ, .tuple #[.bool true, goInt p, .int .i32 c], _, ?_, hm.1, hm.2, .tup _ [.bool true, goInt p, .int .i32 c] (.cons _ _ _ _ (.bool _) (.cons _ _ _ _ (.int _ _) (.cons _ _ _ _ (.int _ _) .nil)))⟩
            have hst := r_set (P := P) (o' := .stringIter s (p + 1)) hw (by intro _ _ _ h; cases h)
            rw [hsh]
            simp only [Instr.next, Sem.run_bind, hobj, Result.andThen_ok, if_pos hlt, hdec, hst, Sem.run_pure]
      · cases e2
    · cases e
end Go.Ev
/- Every operation that is no call. -/
namespace Go.Ev
open Go
variable {P : Program} {w : World} {ρ : Rn}

/-- is an operation a call of a function of the program, or recover? -/
def isCall (o : Op) : Bool := match o with
  | .call c => match c.callee with
    | .builtin .recover => true
    | .builtin _ => false
    | _ => true
  | _ => false

theorem OpS.of_unit {h h' : H} {s : Sem Unit} {v : V} (hu : ∃ w', s.run P w = .ok () w' ∧ Ext ρ h w ρ h' w' ∧ HR P ρ h' w') (hv : v = .tup []) : OpS P ρ h w (do s; pure .skip) v h' := by
  subst hv
  obtain ⟨w', e, x, y⟩ := hu
  refine ⟨ρ, w', .skip, undef, ?_, .inr ⟨rfl, rfl⟩, x, y, .tup [] [] .nil⟩
  simp only [Sem.run_bind, e, Result.andThen_ok, Sem.run_pure]
theorem OpS.of_val {h h' : H} {s : Sem Value} {v : V} (hu : SV P ρ h w s v h') : OpS P ρ h w (do pure (.value (← s))) v h' := by
  obtain ⟨ρ', v', w', e, x, y, z⟩ := hu
  refine ⟨ρ', w', .value v', v', ?_, .inl rfl, x, y, z⟩
  simp only [Sem.run_bind, e, Result.andThen_ok, Sem.run_pure]
theorem unit_some {m : M Unit} {v : V} {h h' : H} (e : unit m h = some (v, h')) : v = .tup [] ∧ ∃ u, m h = some (u, h') := by
  obtain ⟨u, h1, e1, e2⟩ := bind_some e
  obtain ⟨rfl, rfl⟩ := pure_some e2
  exact ⟨rfl, u, e1⟩
theorem OpS.of_run {h : H} {s : Sem Next} {v : V} (hr : HR P ρ h w) (hu : ∃ v', s.run P w = .ok (.value v') w ∧ VR ρ v v') : OpS P ρ h w s v h := by
  obtain ⟨v', e, r⟩ := hu
  exact ⟨ρ, w, .value v', v', e, .inl rfl, Ext.refl _ _ _, hr, r⟩

theorem builtinE_sound {b : Builtin} {ats : Array TypeId} {ty : Nat} {cs : Array Bool} {l : List V} {l' : List Value} {v : V} {h h' : H} (hr : HR P ρ h w) (e : builtinE P b ats.toList l h = some (v, h')) (hl : VRs ρ l l') (hn : b ≠ .recover) :
    OpS P ρ h w (builtin b ats ty cs l'.toArray) v h' := by
  cases b <;> simp only [builtinE] at e <;> first | (cases e; done) | skip
  case append =>
    generalize hts : ats.toList = ts at e
    match ts, l, hts, hl, e with
    | [], _, _, _, e => cases e
    | [_], _, _, _, e => cases e
    | _ :: _ :: _, [], _, _, e => cases e
    | _ :: _ :: _, [_], _, _, e => cases e
    | _ :: _ :: _, _ :: _ :: _ :: _, _, _, e => cases e
    | t :: u :: ts, [s, x], hts, hl, e =>
        obtain ⟨s', x', rfl, hs, hx⟩ := hl.two_inv
        have h0 : ats[0]? = some t := by rw [← Array.getElem?_toList, hts]; rfl
        have h1 : ats[1]? = some u := by rw [← Array.getElem?_toList, hts]; rfl
        exact OpS.of_val (appendV_sound hr e hs hx h0 h1)
  case copy =>
    generalize hts : ats.toList = ts at e
    match ts, l, hts, hl, e with
    | [], _, _, _, e => cases e
    | _ :: _, [], _, _, e => cases e
    | _ :: _, [_], _, _, e => cases e
    | _ :: _, _ :: _ :: _ :: _, _, _, e => cases e
    | t :: ts, [s, x], hts, hl, e =>
        obtain ⟨s', x', rfl, hs, hx⟩ := hl.two_inv
        have h0 : ats[0]? = some t := by rw [← Array.getElem?_toList, hts]; rfl
        exact OpS.of_val (copyV_sound hr e hs hx h0)
  case unsafeString =>
    generalize hts : ats.toList = ts at e
    match ts, hts, e with
    | [], _, e => cases e
    | t :: ts, hts, e =>
      have h0 : ats[0]? = some t := by rw [← Array.getElem?_toList, hts]; rfl
      exact OpS.of_val (strE_sound hr e hl h0)

theorem opE_sound {R : Recs} {o : Oper} {tm : T V} {ev : Operand → Value} {v : V} {h h' : H} (hr : HR P ρ h w) (e : opE P R tm o.op h = some (v, h')) (hx : ∀ x, VR ρ (opd P tm x) (ev x)) (hn : isCall o.op = false) :
    OpS P ρ h w (execOp ev o) v h' := by
  obtain ⟨dst, op, ty, pos, after, guard⟩ := o
  cases op <;> simp only [opE] at e <;> first | (cases e; done) | skip
  case store t a x =>
    generalize ha : opd P tm a = va at e
    cases va with
    | ptr b q =>
      obtain ⟨rfl, u, e1⟩ := unit_some e
      exact OpS.of_unit (storeV_sound hr ha (hx a) (hx x) e1) rfl
    | _ => cases e
  case convert s d x => exact OpS.of_val (convE_sound hr e (hx x))
  case mapUpdate t m k x =>
    obtain ⟨rfl, u, e1⟩ := unit_some e
    exact OpS.of_unit (mapUpdV_sound hr e1 (hx m) (hx k) (hx x)) rfl
  case insert t m k x =>
    obtain ⟨rfl, u, e1⟩ := unit_some e
    exact OpS.of_unit (mapUpdV_sound hr e1 (hx m) (hx k) (hx x)) rfl
  case mapEntry t m k =>
    obtain ⟨v', w', a, b, c, d⟩ := mapEntV_sound hr e (hx m) (hx k)
    exact OpS.of_val ⟨ρ, v', w', a, b, c, d⟩
  case entryStore t m s x =>
    obtain ⟨rfl, u, e1⟩ := unit_some e
    exact OpS.of_unit (entStV_sound hr e1 (hx m) (hx s) (hx x)) rfl
  case range t x => exact OpS.of_val (rangeV_sound hr e (hx x))
  case next it str => exact OpS.of_val (nextV_sound hr e (hx it))
  case call c =>
    obtain ⟨callee, args, ats⟩ := c
    cases callee with
    | value f => simp [isCall] at hn
    | invoke r n => simp [isCall] at hn
    | builtin b =>
      simp only [callE] at e
      have hb : b ≠ .recover := by rintro rfl; simp [isCall] at hn
      have := builtinE_sound (ty := ty) (cs := args.map fun | .const _ => true | _ => false) hr e (opds_sound hx args) hb
      simp only [Array.toArray_toList] at this
      exact this

/-- EVERY OPERATION THAT IS NO CALL -/
theorem opV_sound {R : Recs} {al : Option Nat} {o : Oper} {tm : T V} {ev : Operand → Value} {v : V} {h h' : H} (hr : HR P ρ h w) (e : opV P R al tm o.op h = some (v, h')) (hx : ∀ x, VR ρ (opd P tm x) (ev x)) (hn : isCall o.op = false) :
    OpS P ρ h w (execOp ev o) v h' := by
  simp only [opV] at e
  generalize hk : kd P o.op = k at e
  cases k with
  | p =>
    obtain ⟨e1, rfl⟩ := lift_some e
    exact OpS.of_run hr (opP_sound hk e1 hx)
  | l =>
    obtain ⟨rfl, hv⟩ := opL_sound hr hk e hx
    exact OpS.of_run hr hv
  | a =>
    simp only at e
    generalize ho : opA P (drOf al) tm o.op = q at e
    cases q with
    | none => cases e
    | some y =>
      obtain ⟨b, mk⟩ := y
      simp only at e
      obtain ⟨id, h1, e1, e2⟩ := bind_some e
      obtain ⟨rfl, rfl⟩ := pure_some e2
      exact opA_sound hr hk ho e1 hx
  | i n => exact opE_sound hr e hx hn
  | e => exact opE_sound hr e hx hn
end Go.Ev
/- What every run of the evaluator keeps: it notes what it writes; it does not look at a number that is given and not filled. -/
namespace Go.Ev
open Go

theorem bind_eq {α β : Type} {m : M α} {f : α → M β} {h h1 : H} {a : α} (e : m h = some (a, h1)) : M.bind m f h = f a h1 := by
  unfold M.bind; rw [e]

structure Kept (h h' : H) : Prop where
  next : h.next ≤ h'.next
  gs : h'.gs = h.gs
  dom : ∀ id b, h.bs.get id = some b → ∃ b', h'.bs.get id = some b'
  wr : ∀ id, Nat.testBit h.wr id = true → Nat.testBit h'.wr id = true
  old : ∀ id, id < h.gs → Nat.testBit h'.wr id = false → h'.bs.get id = h.bs.get id
  oldc : ∀ k, k - 1 < h.gs → Nat.testBit h'.wr (k - 1) = false → h'.cl.get k = h.cl.get k
theorem Kept.refl (h : H) : Kept h h := ⟨Nat.le_refl _, rfl, fun _ b hb => ⟨b, hb⟩, fun _ x => x, fun _ _ _ => rfl, fun _ _ _ => rfl⟩
theorem Kept.trans {a b c : H} (x : Kept a b) (y : Kept b c) : Kept a c := by
  refine ⟨Nat.le_trans x.next y.next, y.gs.trans x.gs, fun id d hd => ?_, fun id hi => y.wr id (x.wr id hi), fun id hi hw => ?_, fun k hi hw => ?_⟩
  · obtain ⟨d', hd'⟩ := x.dom id d hd
    exact y.dom id d' hd'
  · have hb : Nat.testBit b.wr id = false := by
      cases hq : Nat.testBit b.wr id with
      | false => rfl
      | true => rw [y.wr id hq] at hw; cases hw
    rw [y.old id (by rw [x.gs]; exact hi) hw, x.old id hi hb]
  · have hb : Nat.testBit b.wr (k - 1) = false := by
      cases hq : Nat.testBit b.wr (k - 1) with
      | false => rfl
      | true => rw [y.wr _ hq] at hw; cases hw
    rw [y.oldc k (by rw [x.gs]; exact hi) hw, x.oldc k hi hb]

/-- a number that is filled from outside -/
noncomputable def H.fill (h : H) (id : Nat) (b : B) : H := match h with
  | .mk n gs wr bs cl => .mk n gs wr (bs.set id b) cl
structure Good {α : Type} (m : M α) : Prop where
  ok : ∀ h a h', m h = some (a, h') → h.gs ≤ h.next → Kept h h'
  fr : ∀ h a h', m h = some (a, h') → h.gs ≤ h.next → ∀ id b, id < h.next → h'.bs.get id = none → m (h.fill id b) = some (a, h'.fill id b)

theorem Good.pure {α : Type} (a : α) : Good (M.pure a) := by
  refine ⟨fun h b h' e _ => ?_, fun h b h' e _ id c _ _ => ?_⟩
  · obtain ⟨_, rfl⟩ := pure_some e; exact Kept.refl _
  · obtain ⟨rfl, rfl⟩ := pure_some e; rfl
theorem Good.fail {α : Type} : Good (M.fail : M α) := by
  refine ⟨fun h b h' e _ => ?_, fun h b h' e _ id c _ _ => ?_⟩ <;> cases e
theorem Good.lift {α : Type} (o : Option α) : Good (M.lift o) := by
  cases o with
  | none => exact Good.fail
  | some a => exact Good.pure a
theorem Good.bind {α β : Type} {m : M α} {f : α → M β} (hm : Good m) (hf : ∀ a, Good (f a)) : Good (M.bind m f) := by
  refine ⟨fun h b h' e hg => ?_, fun h b h' e hg id c hid hn => ?_⟩
  · obtain ⟨a, h1, e1, e2⟩ := bind_some e
    have k1 := hm.ok h a h1 e1 hg
    exact k1.trans ((hf a).ok h1 b h' e2 (by rw [k1.gs]; exact Nat.le_trans hg k1.next))
  · obtain ⟨a, h1, e1, e2⟩ := bind_some e
    have k1 := hm.ok h a h1 e1 hg
    have hg1 : h1.gs ≤ h1.next := by rw [k1.gs]; exact Nat.le_trans hg k1.next
    have k2 := (hf a).ok h1 b h' e2 hg1
    have hn1 : h1.bs.get id = none := by
      cases hq : h1.bs.get id with
      | none => rfl
      | some d => obtain ⟨d', hd'⟩ := k2.dom id d hq; rw [hn] at hd'; cases hd'
    have r1 := hm.fr h a h1 e1 hg id c hid hn1
    have r2 := (hf a).fr h1 b h' e2 hg1 id c (Nat.lt_of_lt_of_le hid k1.next) hn
    rw [bind_eq r1, r2]

theorem ne_of_get {t : T B} {i j : Nat} {b : B} (h : t.get i = some b) (k : t.get j = none) : i ≠ j := fun e => by subst e; rw [h] at k; cases k

theorem Good.getB (id : Nat) : Good (getB id) := by
  refine ⟨fun h b h' e _ => ?_, fun h b h' e _ j c _ hn => ?_⟩
  · obtain ⟨rfl, _⟩ := getB_some e; exact Kept.refl _
  · obtain ⟨rfl, hb⟩ := getB_some e
    obtain ⟨n, gs, wr, bs, cl⟩ := h'
    have hne := ne_of_get hb hn
    have hb' : bs.get id = some b := hb
    simp only [H.fill, Ev.getB, T.get_set_ne _ _ hne, hb']
theorem Good.getC (k : Nat) : Good (getC k) := by
  refine ⟨fun h b h' e _ => ?_, fun h b h' e _ j c _ hn => ?_⟩
  · obtain ⟨rfl, _⟩ := getC_some e; exact Kept.refl _
  · obtain ⟨rfl, hb⟩ := getC_some e
    obtain ⟨n, gs, wr, bs, cl⟩ := h'
    have hb' : cl.get k = some b := hb
    simp only [H.fill, Ev.getC, hb']
theorem note_bit (gs id wr i : Nat) : Nat.testBit (note gs id wr) i = (Nat.testBit wr i || (decide (id < gs) && decide (i = id))) := by
  unfold note
  cases hb : Nat.blt id gs with
  | true =>
    rw [blt_nat] at hb
    have : (wr.lor (Nat.shiftLeft 1 id)) = wr ||| (1 <<< id) := rfl
    simp only [this, Nat.testBit_or, Nat.one_shiftLeft, Nat.testBit_two_pow, hb, decide_true, Bool.true_and]
    congr 1
    by_cases h : i = id
    · subst h; simp
    · have h2 : ¬ id = i := fun q => h q.symm
      simp [h, h2]
  | false =>
    rw [blt_nat_false] at hb
    have : ¬ id < gs := by omega
    simp [this]
theorem Good.setC (k : Nat) (c : Cl) : Good (setC k c) := by
  refine ⟨fun h b h' e _ => ?_, fun h b h' e _ j c _ hn => ?_⟩
  · obtain ⟨n, gs, wr, bs, cl⟩ := h
    simp only [Ev.setC] at e
    injection e with e; injection e with _ e; subst e
    refine ⟨Nat.le_refl _, rfl, fun _ b hb => ⟨b, hb⟩, fun i hi => ?_, fun _ _ _ => rfl, fun j hj hw => ?_⟩
    · show Nat.testBit (note gs (k - 1) wr) i = true
      rw [note_bit]
      have : Nat.testBit wr i = true := hi
      rw [this]; rfl
    · have hw' : Nat.testBit (note gs (k - 1) wr) (j - 1) = false := hw
      rw [note_bit] at hw'
      have q : j ≠ k := by
        rintro rfl
        have : j - 1 < gs := hj
        simp [this] at hw'
      show (cl.set k c).get j = cl.get j
      rw [T.get_set_ne _ _ q]
  · obtain ⟨n, gs, wr, bs, cl⟩ := h
    simp only [Ev.setC] at e
    injection e with e; injection e with _ e; subst e
    rfl
theorem Good.updB (id : Nat) (f : B → Option B) : Good (updB id f) := by
  refine ⟨fun h u h' e _ => ?_, fun h u h' e _ j c _ hn => ?_⟩
  · obtain ⟨n, gs, wr, bs, cl⟩ := h
    simp only [Ev.updB] at e
    split at e
    · rename_i b hb
      split at e
      · rename_i b' hb'
        injection e with e; injection e with _ e; subst e
        refine ⟨Nat.le_refl _, rfl, fun i d hd => ?_, fun i hi => ?_, fun i hi hw => ?_, fun _ _ _ => rfl⟩
        · by_cases q : i = id
          · subst q; exact ⟨b', T.get_set_same _ _ _⟩
          · exact ⟨d, by show (bs.set id b').get i = some d; rw [T.get_set_ne _ _ q]; exact hd⟩
        · show Nat.testBit (note gs id wr) i = true
          rw [note_bit]
          have : Nat.testBit wr i = true := hi
          rw [this]; rfl
        · have hw' : Nat.testBit (note gs id wr) i = false := hw
          rw [note_bit] at hw'
          have q : i ≠ id := by
            rintro rfl
            have : i < gs := hi
            simp [this] at hw'
          show (bs.set id b').get i = bs.get i
          rw [T.get_set_ne _ _ q]
      · cases e
    · cases e
  · obtain ⟨n, gs, wr, bs, cl⟩ := h
    simp only [Ev.updB] at e
    split at e
    · rename_i b hb
      split at e
      · rename_i b' hb'
        injection e with e; injection e with _ e; subst e
        have hne : id ≠ j := by
          rintro rfl
          have : (bs.set id b').get id = none := hn
          rw [T.get_set_same] at this; cases this
        simp only [H.fill, Ev.updB, T.get_set_ne _ _ hne, hb, hb']
        rw [T.set_comm bs j id _ _ (fun q => hne q.symm)]
      · cases e
    · cases e
theorem Good.newB (b : B) : Good (newB b) := by
  refine ⟨fun h u h' e hg => ?_, fun h u h' e hg j c hj hn => ?_⟩
  · obtain ⟨n, gs, wr, bs, cl⟩ := h
    simp only [Ev.newB] at e
    injection e with e; injection e with _ e; subst e
    refine ⟨Nat.le_succ _, rfl, fun i d hd => ?_, fun i hi => ?_, fun i hi hw => ?_, fun _ _ _ => rfl⟩
    · by_cases q : i = n
      · subst q; exact ⟨b, T.get_set_same _ _ _⟩
      · exact ⟨d, by show (bs.set n b).get i = some d; rw [T.get_set_ne _ _ q]; exact hd⟩
    · show Nat.testBit (note gs n wr) i = true
      rw [note_bit]
      have : Nat.testBit wr i = true := hi
      rw [this]; rfl
    · show (bs.set n b).get i = bs.get i
      have h1 : gs ≤ n := hg
      have h2 : i < gs := hi
      rw [T.get_set_ne _ _ (by omega)]
  · obtain ⟨n, gs, wr, bs, cl⟩ := h
    simp only [Ev.newB] at e
    injection e with e; injection e with e0 e; subst e; subst e0
    have hj' : j < n := hj
    simp only [H.fill, Ev.newB]
    rw [T.set_comm bs j n _ _ (by omega)]
theorem Good.newG (c : List V) (ee : Nat) : Good (newG c ee) := by
  refine ⟨fun h u h' e hg => ?_, fun h u h' e hg j c hj hn => ?_⟩
  · obtain ⟨n, gs, wr, bs, cl⟩ := h
    simp only [Ev.newG] at e
    injection e with e; injection e with _ e; subst e
    refine ⟨Nat.le_succ _, rfl, fun i d hd => ?_, fun i hi => ?_, fun i hi hw => ?_, fun k hk _ => ?_⟩
    · by_cases q : i = n
      · subst q; exact ⟨_, T.get_set_same _ _ _⟩
      · exact ⟨d, by show (bs.set n _).get i = some d; rw [T.get_set_ne _ _ q]; exact hd⟩
    · show Nat.testBit (note gs n wr) i = true
      rw [note_bit]
      have : Nat.testBit wr i = true := hi
      rw [this]; rfl
    · show (bs.set n _).get i = bs.get i
      have h1 : gs ≤ n := hg
      have h2 : i < gs := hi
      rw [T.get_set_ne _ _ (by omega)]
    · show (cl.set (n + 1) _).get k = cl.get k
      have h1 : gs ≤ n := hg
      have h2 : k - 1 < gs := hk
      rw [T.get_set_ne _ _ (by omega)]
  · obtain ⟨n, gs, wr, bs, cl⟩ := h
    simp only [Ev.newG] at e
    injection e with e; injection e with e0 e; subst e; subst e0
    have hj' : j < n := hj
    simp only [H.fill, Ev.newG]
    rw [T.set_comm bs j n _ _ (by omega)]
theorem Good.fillB (id : Nat) (b : B) : Good (fillB id b) := by
  refine ⟨fun h u h' e hg => ?_, fun h u h' e hg j c hj hn => ?_⟩
  · obtain ⟨n, gs, wr, bs, cl⟩ := h
    simp only [Ev.fillB] at e
    split at e
    · split at e
      · cases e
      · rename_i hlt _ hno
        injection e with e; injection e with _ e; subst e
        refine ⟨Nat.le_refl _, rfl, fun i d hd => ?_, fun i hi => ?_, fun i hi hw => ?_, fun _ _ _ => rfl⟩
        · by_cases q : i = id
          · subst q; exact ⟨b, T.get_set_same _ _ _⟩
          · exact ⟨d, by show (bs.set id b).get i = some d; rw [T.get_set_ne _ _ q]; exact hd⟩
        · show Nat.testBit (note gs id wr) i = true
          rw [note_bit]
          have : Nat.testBit wr i = true := hi
          rw [this]; rfl
        · have hw' : Nat.testBit (note gs id wr) i = false := hw
          rw [note_bit] at hw'
          have q : i ≠ id := by
            rintro rfl
            have : i < gs := hi
            simp [this] at hw'
          show (bs.set id b).get i = bs.get i
          rw [T.get_set_ne _ _ q]
    · cases e
  · obtain ⟨n, gs, wr, bs, cl⟩ := h
    simp only [Ev.fillB] at e
    split at e
    · split at e
      · cases e
      · rename_i hlt _ hno
        injection e with e; injection e with _ e; subst e
        have hne : id ≠ j := by
          rintro rfl
          have : (bs.set id b).get id = none := hn
          rw [T.get_set_same] at this; cases this
        simp only [H.fill, Ev.fillB, hlt, T.get_set_ne _ _ hne, hno]
        rw [T.set_comm bs j id _ _ (fun q => hne q.symm)]
    · cases e
theorem Good.reserve (k : Nat) : Good (reserve k) := by
  refine ⟨fun h u h' e hg => ?_, fun h u h' e hg j c hj hn => ?_⟩
  · obtain ⟨n, gs, wr, bs, cl⟩ := h
    simp only [Ev.reserve] at e
    injection e with e; injection e with _ e; subst e
    exact ⟨Nat.le_add_right _ _, rfl, fun _ b hb => ⟨b, hb⟩, fun _ x => x, fun _ _ _ => rfl, fun _ _ _ => rfl⟩
  · obtain ⟨n, gs, wr, bs, cl⟩ := h
    simp only [Ev.reserve] at e
    injection e with e; injection e with e0 e; subst e; subst e0
    rfl
theorem getOld_some {start id : Nat} {b : B} {h h' : H} (e : getOld start id h = some (b, h')) : h' = h ∧ id < start ∧ Nat.testBit h.wr id = false ∧ h.bs.get id = some b ∧ clsOf b = 0 := by
  obtain ⟨n, gs, wr, bs, cl⟩ := h
  simp only [Ev.getOld] at e
  split at e
  · rename_i hlt
    split at e
    · rename_i hw
      split at e
      all_goals first | (cases e; done) | skip
      all_goals
        rename_i hg
        injection e with e; injection e with e1 e2; subst e1; subst e2
        exact ⟨rfl, blt_nat.1 hlt, hw, hg, rfl⟩
    · cases e
  · cases e
theorem getOld_of {start id : Nat} {b : B} {h : H} (h1 : id < start) (h2 : Nat.testBit h.wr id = false) (h3 : h.bs.get id = some b) {h0 h0' : H} (e : getOld start id h0 = some (b, h0')) : getOld start id h = some (b, h) := by
  obtain ⟨n, gs, wr, bs, cl⟩ := h
  obtain ⟨n0, gs0, wr0, bs0, cl0⟩ := h0
  have h2' : Nat.testBit wr id = false := h2
  have h3' : bs.get id = some b := h3
  simp only [Ev.getOld] at e ⊢
  rw [blt_nat.2 h1] at e ⊢
  simp only [h2', h3'] at e ⊢
  split at e
  · split at e
    all_goals first | (cases e; done) | skip
    all_goals
      injection e with e; injection e with e1 e2; subst e1
      rfl
  · cases e
theorem Good.getOld (start id : Nat) : Good (getOld start id) := by
  refine ⟨fun h b h' e _ => ?_, fun h b h' e _ j c _ hn => ?_⟩
  · obtain ⟨rfl, _⟩ := getOld_some e; exact Kept.refl _
  · obtain ⟨rfl, h1, h2, h3, _⟩ := getOld_some e
    have hne := ne_of_get h3 hn
    have : (H.fill h' j c).bs.get id = some b := by
      obtain ⟨n, gs, wr, bs, cl⟩ := h'
      show (bs.set j c).get id = some b
      rw [T.get_set_ne _ _ hne]; exact h3
    exact getOld_of h1 (by obtain ⟨n, gs, wr, bs, cl⟩ := h'; exact h2) this e
theorem low_bit (gs x i : Nat) : Nat.testBit (lowBits gs x) i = (Nat.testBit x i && decide (i < gs)) := by
  unfold lowBits
  have : (x.land (Nat.shiftLeft 1 gs - 1)) = x &&& (1 <<< gs - 1) := rfl
  rw [this, Nat.one_shiftLeft, Nat.testBit_and, Nat.testBit_two_pow_sub_one]
theorem guard_some {α : Type} {start : Nat} {m : M α} {h h' : H} {a : α} (e : guard start m h = some (a, h')) : ∃ h1, m (.mk h.next start 0 h.bs h.cl) = some (a, h1) ∧ h' = .mk h1.next h.gs (Nat.lor h.wr (lowBits h.gs h1.wr)) h1.bs h1.cl := by
  obtain ⟨n, gs, wr, bs, cl⟩ := h
  simp only [Ev.guard] at e
  split at e
  · rename_i x hx
    obtain ⟨b, h1⟩ := x
    obtain ⟨n1, gs1, wr1, bs1, cl1⟩ := h1
    simp only at e
    injection e with e; injection e with e1 e2; subst e1; subst e2
    exact ⟨_, hx, rfl⟩
  · cases e
/-- a region's run -/
theorem Good.guarded {α : Type} (k : Nat) (g : Bool) {m : Nat → M α} (hm : ∀ s, Good (m s)) : Good (M.bind (Ev.reserve k) fun s => match g with | true => guard s (m s) | false => m s) := by
  cases g with
  | false => exact Good.bind (Good.reserve k) hm
  | true =>
    refine ⟨fun h b h' e hg => ?_, fun h b h' e hg j c hj hn => ?_⟩
    · obtain ⟨s, h1, e1, e2⟩ := bind_some e
      obtain ⟨n, gs, wr, bs, cl⟩ := h
      simp only [Ev.reserve] at e1
      injection e1 with e1; injection e1 with e0 e1; subst e1; subst e0
      obtain ⟨h2, e3, rfl⟩ := guard_some e2
      have k2 := (hm n).ok _ _ _ e3 (Nat.le_add_right n k)
      have hgn : gs ≤ n := hg
      refine ⟨Nat.le_trans (Nat.le_add_right n k) k2.next, rfl, k2.dom, fun i hi => ?_, fun i hi hw => ?_, fun i hi hw => ?_⟩
      · show Nat.testBit (wr ||| lowBits gs h2.wr) i = true
        have : Nat.testBit wr i = true := hi
        rw [Nat.testBit_or, this]; rfl
      · have hi' : i < gs := hi
        have hw' : Nat.testBit (wr ||| lowBits gs h2.wr) i = false := hw
        rw [Nat.testBit_or, low_bit] at hw'
        simp only [hi', decide_true, Bool.and_true, Bool.or_eq_false_iff] at hw'
        exact k2.old i (Nat.lt_of_lt_of_le hi' hgn) hw'.2
      · have hi' : i - 1 < gs := hi
        have hw' : Nat.testBit (wr ||| lowBits gs h2.wr) (i - 1) = false := hw
        rw [Nat.testBit_or, low_bit] at hw'
        simp only [hi', decide_true, Bool.and_true, Bool.or_eq_false_iff] at hw'
        exact k2.oldc i (Nat.lt_of_lt_of_le hi' hgn) hw'.2
    · obtain ⟨s, h1, e1, e2⟩ := bind_some e
      obtain ⟨n, gs, wr, bs, cl⟩ := h
      simp only [Ev.reserve] at e1
      injection e1 with e1; injection e1 with e0 e1; subst e1; subst e0
      obtain ⟨h2, e3, rfl⟩ := guard_some e2
      have hj' : j < n := hj
      have r := (hm n).fr _ _ _ e3 (Nat.le_add_right n k) j c (Nat.lt_of_lt_of_le hj' (Nat.le_add_right n k)) hn
      obtain ⟨n2, gs2, wr2, bs2, cl2⟩ := h2
      have r' : m n (.mk (n + k) n 0 (bs.set j c) cl) = some (b, .mk n2 gs2 wr2 (bs2.set j c) cl2) := r
      show (match m n (.mk (n + k) n 0 (bs.set j c) cl) with
        | some x => match x with
          | (a, h') => match h' with
            | .mk n' _ wr' bs' cl' => some (a, H.mk n' gs (Nat.lor wr (lowBits gs wr')) bs' cl')
        | none => none) = _
      rw [r']
      rfl
end Go.Ev
/- The evaluator's runs are good. -/
namespace Go.Ev
open Go
variable {P : Program} {R : Recs}

structure GoodR (R : Recs) : Prop where
  code : ∀ c f, Good (R.code c f)
  ops : ∀ a l f, Good (R.ops a l f)
  draw : ∀ a s l f, Good (R.draw a s l f)
  call : ∀ f a, Good (R.call f a)
  defers : ∀ l, Good (R.defers l)

theorem Good.newAt (al : Option Nat) (b : B) : Good (newAt al b) := by
  cases al with
  | none => exact Good.newB b
  | some id => exact Good.bind (Good.fillB id b) fun _ => Good.pure id
theorem Good.getL (id : Nat) : Good (getL id) := by
  unfold Ev.getL
  refine Good.bind (Good.getB id) fun b => ?_
  repeat' (first | exact Good.pure _ | exact Good.fail | exact Good.getC _ | (refine Good.bind ?_ fun _ => ?_) | split)
theorem Good.cellsOf (id : Nat) : Good (cellsOf id) := by
  unfold Ev.cellsOf
  refine Good.bind (Good.getB id) fun b => ?_
  repeat' (first | exact Good.pure _ | exact Good.fail | exact Good.getC _ | (refine Good.bind ?_ fun _ => ?_) | split)
theorem Good.own (id k : Nat) : Good (own id k) := by
  unfold Ev.own
  repeat' (first | exact Good.pure _ | exact Good.fail | exact Good.getC _ | exact Good.setC _ _ | (refine Good.bind ?_ fun _ => ?_) | split)
theorem Good.putCells (id : Nat) (c : List V) : Good (putCells id c) := Good.updB _ _
theorem Good.loadV (t b o : Nat) : Good (loadV P t b o) := Good.bind (Good.getL b) fun _ => Good.lift _
theorem Good.storeV (t b o : Nat) (v : V) : Good (storeV P t b o v) := by
  unfold Ev.storeV
  repeat' (first | exact Good.pure _ | exact Good.fail | exact Good.cellsOf _ | exact Good.own _ _ | exact Good.putCells _ _ | (refine Good.bind ?_ fun _ => ?_) | split)
theorem Good.elemsOf (sz : Nat) (x : V) : Good (elemsOf sz x) := by
  unfold Ev.elemsOf
  repeat' (first | exact Good.pure _ | exact Good.fail | exact Good.cellsOf _ | (refine Good.bind ?_ fun _ => ?_) | split)
theorem Good.appendB (e sz b o len : Nat) (cap : Cap) (xs : List V) (n : Nat) : Good (appendB e sz b o len cap xs n) := by
  unfold Ev.appendB
  repeat' (first | exact Good.pure _ | exact Good.fail | exact Good.cellsOf _ | exact Good.own _ _ | exact Good.putCells _ _ | exact Good.newG _ _ | exact Good.newB _ | exact Good.getC _ | exact Good.setC _ _ | (refine Good.bind ?_ fun _ => ?_) | split)
theorem Good.appendV (t u : Nat) (s x : V) : Good (appendV P t u s x) := by
  unfold Ev.appendV
  repeat' (first | exact Good.pure _ | exact Good.fail | exact Good.elemsOf _ _ | exact Good.appendB _ _ _ _ _ _ _ _ | exact Good.newG _ _ | (refine Good.bind ?_ fun _ => ?_) | split)
theorem Good.copyV (t : Nat) (d x : V) : Good (copyV P t d x) := by
  unfold Ev.copyV
  repeat' (first | exact Good.pure _ | exact Good.fail | exact Good.elemsOf _ _ | exact Good.cellsOf _ | exact Good.own _ _ | exact Good.putCells _ _ | (refine Good.bind ?_ fun _ => ?_) | split)
theorem Good.getMap (r : Nat) : Good (getMap r) := by
  unfold Ev.getMap
  repeat' (first | exact Good.pure _ | exact Good.fail | exact Good.getB _ | (refine Good.bind ?_ fun _ => ?_) | split)
theorem Good.putMap (r : Nat) (es : List (V × V × Nat)) (cl : Nat) : Good (putMap r es cl) := Good.updB _ _
theorem Good.insertV (t bound : Nat) (x k v : V) : Good (insertV P t bound x k v) := by
  unfold Ev.insertV
  repeat' (first | exact Good.fail | exact Good.updB _ _ | split)
theorem Good.mapUpdV (t : Nat) (x k v : V) : Good (mapUpdV P t x k v) := by
  unfold Ev.mapUpdV
  repeat' (first | exact Good.fail | exact Good.updB _ _ | split)
theorem Good.mapEntV (t : Nat) (x k : V) : Good (mapEntV P t x k) := by
  unfold Ev.mapEntV
  repeat' (first | exact Good.pure _ | exact Good.fail | exact Good.getMap _ | exact Good.putMap _ _ _ | (refine Good.bind ?_ fun _ => ?_) | split)
theorem Good.entStV (x s v : V) : Good (entStV x s v) := by
  unfold Ev.entStV
  repeat' (first | exact Good.pure _ | exact Good.fail | exact Good.getMap _ | exact Good.putMap _ _ _ | (refine Good.bind ?_ fun _ => ?_) | split)
theorem Good.convE (s d : Nat) (x : V) : Good (convE P s d x) := by
  unfold Ev.convE
  repeat' (first | exact Good.pure _ | exact Good.fail | exact Good.getB _ | exact Good.newG _ _ | (refine Good.bind ?_ fun _ => ?_) | split)
theorem Good.strE (pt : Nat) (l : List V) : Good (strE P pt l) := by
  unfold Ev.strE
  repeat' (first | exact Good.pure _ | exact Good.fail | exact Good.cellsOf _ | exact Good.getC _ | exact Good.setC _ _ | (refine Good.bind ?_ fun _ => ?_) | split)
theorem Good.unit {m : M Unit} (h : Good m) : Good (unit m) := Good.bind h fun _ => Good.pure _
theorem Good.builtinE (b : Builtin) (ts : List Nat) (l : List V) : Good (builtinE P b ts l) := by
  unfold Ev.builtinE
  repeat' (first | exact Good.pure _ | exact Good.fail | exact Good.appendV _ _ _ _ | exact Good.copyV _ _ _ | exact Good.strE _ _ | split)
theorem Good.callE (hR : GoodR R) (tm : T V) (c : Call) : Good (callE P R tm c) := by
  unfold Ev.callE
  repeat' (first | exact Good.fail | exact Good.builtinE _ _ _ | exact hR.call _ _ | split)
theorem Good.rangeV (t : Nat) (x : V) : Good (rangeV P t x) := by
  unfold Ev.rangeV
  repeat' (first | exact Good.pure _ | exact Good.fail | exact Good.newB _ | exact Good.getB _ | (refine Good.bind ?_ fun _ => ?_) | split)
theorem Good.nextV (x : V) (s : Bool) : Good (nextV x s) := by
  unfold Ev.nextV Ev.putIter
  repeat' (first | exact Good.pure _ | exact Good.fail | exact Good.getB _ | exact Good.updB _ _ | (refine Good.bind ?_ fun _ => ?_) | split)
theorem Good.opE (hR : GoodR R) (tm : T V) (o : Op) : Good (opE P R tm o) := by
  unfold Ev.opE
  repeat' (first | exact Good.fail | exact Good.unit (Good.storeV _ _ _ _) | exact Good.convE _ _ _ | exact Good.unit (Good.mapUpdV _ _ _ _) | exact Good.mapEntV _ _ _ | exact Good.unit (Good.entStV _ _ _) | exact Good.rangeV _ _ | exact Good.nextV _ _ | exact Good.callE hR _ _ | split)
theorem Good.opL (tm : T V) (o : Op) : Good (opL P tm o) := by
  unfold Ev.opL
  repeat' (first | exact Good.lift _ | exact Good.getL _ | (refine Good.bind ?_ fun _ => ?_) | split)
theorem Good.opV (hR : GoodR R) (al : Option Nat) (tm : T V) (o : Op) : Good (opV P R al tm o) := by
  unfold Ev.opV
  repeat' (first | exact Good.lift _ | exact Good.opL _ _ | exact Good.opE hR _ _ | exact Good.pure _ | exact Good.fail | exact Good.newAt _ _ | (refine Good.bind ?_ fun _ => ?_) | split)
theorem Good.put (f : Fm) (d : Option Nat) (v : V) : Good (put f d v) := by
  unfold Ev.put
  repeat' (first | exact Good.pure _ | exact Good.fail | split)
theorem Good.deferV (f : Fm) (c : Call) (d : Option Nat) : Good (deferV P f c d) := by
  unfold Ev.deferV
  repeat' (first | exact Good.put _ _ _ | exact Good.fail | split)
theorem Good.recoverV (f : Fm) (d : Option Nat) : Good (recoverV f d) := by
  unfold Ev.recoverV
  repeat' (first | exact Good.put _ _ _ | exact Good.fail | split)
theorem Good.oneOp (hR : GoodR R) (al : Option Nat) (all : List Oper) (o : Oper) (f : Fm) : Good (oneOp P R al all o f) := by
  unfold Ev.oneOp
  repeat' (first | exact Good.put _ _ _ | exact Good.fail | exact Good.deferV _ _ _ | exact Good.recoverV _ _ | exact Good.opV hR _ _ _ | (refine Good.bind ?_ fun _ => ?_) | split)
theorem Good.opsF (hR : GoodR R) (all : Array Oper) (l : List Oper) (f : Fm) : Good (opsF P R all l f) := by
  unfold Ev.opsF
  repeat' (first | exact Good.pure _ | exact Good.oneOp hR _ _ _ _ | exact hR.ops _ _ _ | (refine Good.bind ?_ fun _ => ?_) | split)
theorem Good.opD (hR : GoodR R) (s i fl : Nat) (tm : T V) (o : Op) : Good (opD P R s i fl tm o) := by
  unfold Ev.opD
  repeat' (first | exact Good.lift _ | exact Good.fail | exact Good.opV hR _ _ _ | exact Good.getL _ | exact Good.getOld _ _ | exact Good.unit (Good.insertV _ _ _ _ _) | (refine Good.bind ?_ fun _ => ?_) | split)
theorem Good.oneD (hR : GoodR R) (s : Nat) (all : List Oper) (x : Nat × Nat) (f : Fm) : Good (oneD P R s all x f) := by
  unfold Ev.oneD
  repeat' (first | exact Good.put _ _ _ | exact Good.fail | exact Good.opD hR _ _ _ _ _ | (refine Good.bind ?_ fun _ => ?_) | split)
theorem Good.drawF (hR : GoodR R) (all : Array Oper) (s : Nat) (l : List (Nat × Nat)) (f : Fm) : Good (drawF P R all s l f) := by
  unfold Ev.drawF
  repeat' (first | exact Good.pure _ | exact Good.oneD hR _ _ _ _ | exact hR.draw _ _ _ _ | (refine Good.bind ?_ fun _ => ?_) | split)
theorem Good.regionF (hR : GoodR R) (ops : Array Oper) (d : Bool) (f : Fm) : Good (regionF P R ops d f) := by
  unfold Ev.regionF
  split
  · exact hR.ops _ _ _
  · split
    · exact Good.guarded _ _ fun s => hR.draw _ _ _ _
    · exact Good.fail
theorem Good.getLoop (l : Nat) : Good (getLoop l) := by
  unfold Ev.getLoop
  repeat' (first | exact Good.pure _ | exact Good.fail | exact Good.getB _ | (refine Good.bind ?_ fun _ => ?_) | split)
theorem Good.setLoop (l s : Nat) (p : Option Code) : Good (setLoop l s p) := Good.updB _ _
theorem Good.endLoopF (l : Nat) (f : Fm) : Good (endLoopF l f) := by
  unfold Ev.endLoopF
  repeat' (first | exact Good.pure _ | exact Good.fail | exact Good.getLoop _ | exact Good.setLoop _ _ _ | (refine Good.bind ?_ fun _ => ?_) | split)
theorem Good.rangeF (hR : GoodR R) (g : Operand) (ps : Array Nat) (a b : Code) (f : Fm) : Good (rangeF P R g ps a b f) := by
  unfold Ev.rangeF
  repeat' (first | exact Good.pure _ | exact Good.fail | exact Good.getLoop _ | exact Good.newB _ | exact hR.call _ _ | exact Good.endLoopF _ _ | (refine Good.bind ?_ fun _ => ?_) | split)
theorem Good.roundM (hR : GoodR R) (ml : ML) (f : Fm) (e : V × V) : Good (roundM R ml f e) := by
  unfold Ev.roundM
  refine Good.bind (hR.ops _ _ _) fun _ => Good.bind (hR.code _ _) fun r => ?_
  obtain ⟨x, i, f⟩ := r
  simp only
  split
  · split <;> exact Good.pure _
  · exact Good.pure _

-- a range over a map
theorem low_zero {n wr : Nat} (h : Nat.beq (lowBits n wr) 0 = true) {i : Nat} (hi : i < n) : Nat.testBit wr i = false := by
  rw [beq_nat] at h
  have := low_bit n wr i
  rw [h] at this
  simpa [hi] using this.symm
theorem eachE_cons (ml : ML) (f : Fm) (h : H) (e : V × V) (l : List (V × V)) : eachE R ml f h (e :: l) = (match oneE R ml f h e with
  | some none => eachE R ml f h l
  | some (some r) => match eachE R ml f h l with
    | some none => some (some r)
    | _ => none
  | none => none) := rfl
theorem eachE_all {ml : ML} {f : Fm} {h : H} : ∀ {l : List (V × V)} {o : Option ((Nat × Nat × Fm) × H)}, eachE R ml f h l = some o → ∀ e ∈ l, ∃ q, oneE R ml f h e = some q ∧ (q = none ∨ q = o)
  | [], _, _, e, he => by cases he
  | a :: l, o, hh, e, he => by
    rw [eachE_cons] at hh
    generalize h1 : oneE R ml f h a = q1 at hh
    match q1, h1, hh with
    | some none, h1, hh =>
      rcases List.mem_cons.1 he with rfl | he
      · exact ⟨none, h1, .inl rfl⟩
      · exact eachE_all hh e he
    | some (some r), h1, hh =>
      simp only at hh
      generalize h2 : eachE R ml f h l = q2 at hh
      match q2, h2, hh with
      | some none, h2, hh =>
        injection hh with hh; subst hh
        rcases List.mem_cons.1 he with rfl | he
        · exact ⟨_, h1, .inr rfl⟩
        · obtain ⟨q, a1, a2⟩ := eachE_all h2 e he
          rcases a2 with rfl | rfl <;> exact ⟨_, a1, .inl rfl⟩
/-- what one entry's round does to the heap -/
theorem oneE_kept (hR : GoodR R) {ml : ML} {f : Fm} {h : H} {e : V × V} {r : Nat × Nat × Fm} {h' : H} (hg : h.gs ≤ h.next) (hh : oneE R ml f h e = some (some (r, h'))) : Kept h h' := by
  obtain ⟨n, gs, wr, bs, cl⟩ := h
  unfold oneE at hh
  simp only at hh
  generalize hq : roundM R ml f e (.mk n n 0 bs cl) = q at hh
  match q, hq, hh with
  | some ((0, i, g), .mk n' g' wr' bs' cl'), hq, hh =>
    simp only at hh
    split at hh <;> cases hh
  | some ((x + 1, i, g), .mk n' g' wr' bs' cl'), hq, hh =>
    simp only at hh
    injection hh with hh; injection hh with hh; injection hh with h1 h2
    subst h2
    have k := (Good.roundM hR ml f e).ok _ _ _ hq (Nat.le_refl _)
    have hgn : gs ≤ n := hg
    refine ⟨k.next, rfl, k.dom, fun j hj => ?_, fun j hj hw => ?_, fun j hj hw => ?_⟩
    · show Nat.testBit (wr ||| lowBits gs wr') j = true
      have : Nat.testBit wr j = true := hj
      rw [Nat.testBit_or, this]; rfl
    · have hj' : j < gs := hj
      have hw' : Nat.testBit (wr ||| lowBits gs wr') j = false := hw
      rw [Nat.testBit_or, low_bit] at hw'
      simp only [hj', decide_true, Bool.and_true, Bool.or_eq_false_iff] at hw'
      exact k.old j (Nat.lt_of_lt_of_le hj' hgn) hw'.2
    · have hj' : j - 1 < gs := hj
      have hw' : Nat.testBit (wr ||| lowBits gs wr') (j - 1) = false := hw
      rw [Nat.testBit_or, low_bit] at hw'
      simp only [hj', decide_true, Bool.and_true, Bool.or_eq_false_iff] at hw'
      exact k.oldc j (Nat.lt_of_lt_of_le hj' hgn) hw'.2
theorem fill_mk (n gs wr : Nat) (bs : T B) (cl : T Cl) (id : Nat) (c : B) : H.fill (.mk n gs wr bs cl) id c = .mk n gs wr (bs.set id c) cl := rfl
/-- a number that is filled from outside, in a round -/
theorem oneE_fill (hR : GoodR R) {ml : ML} {f : Fm} {h : H} {e : V × V} {q : Option ((Nat × Nat × Fm) × H)} (hh : oneE R ml f h e = some q) {id : Nat} {c : B} (hid : id < h.next) (hn : h.bs.get id = none) (hq : ∀ r h', q = some (r, h') → h'.bs.get id = none) :
    oneE R ml f (h.fill id c) e = some (q.map fun x => (x.1, x.2.fill id c)) := by
  obtain ⟨n, gs, wr, bs, cl⟩ := h
  rw [fill_mk]
  unfold oneE at hh ⊢
  simp only at hh ⊢
  generalize hs : roundM R ml f e (.mk n n 0 bs cl) = s at hh
  match s, hs, hh with
  | some ((0, i, g), .mk n' g' wr' bs' cl'), hs, hh =>
    simp only at hh
    have k := (Good.roundM hR ml f e).ok _ _ _ hs (Nat.le_refl _)
    generalize hz : Nat.beq (lowBits n wr') 0 = z at hh
    cases z with
    | false => cases hh
    | true =>
      have hid' : id < n := hid
      have hnew : bs'.get id = none := (k.old id hid' (low_zero hz hid')).trans hn
      have r := (Good.roundM hR ml f e).fr _ _ _ hs (Nat.le_refl _) id c hid' hnew
      rw [fill_mk, fill_mk] at r
      rw [r]
      simp only [hz]
      generalize sameFm f g ml.it = sm at hh
      cases sm with
      | false => cases hh
      | true => injection hh with hh; subst hh; rfl
  | some ((x + 1, i, g), .mk n' g' wr' bs' cl'), hs, hh =>
    simp only at hh
    injection hh with hh; subst hh
    have hnew := hq _ _ rfl
    have r := (Good.roundM hR ml f e).fr _ _ _ hs (Nat.le_refl _) id c hid hnew
    rw [fill_mk, fill_mk] at r
    rw [r]
    rfl
theorem eachE_fill (hR : GoodR R) {ml : ML} {f : Fm} {h : H} {id : Nat} {c : B} (hid : id < h.next) (hn : h.bs.get id = none) : ∀ {l : List (V × V)} {o : Option ((Nat × Nat × Fm) × H)}, eachE R ml f h l = some o → (∀ r h', o = some (r, h') → h'.bs.get id = none) →
    eachE R ml f (h.fill id c) l = some (o.map fun x => (x.1, x.2.fill id c))
  | [], o, hh, _ => by
    have : o = none := by
      have hh' : some none = some o := hh
      injection hh' with hh'; exact hh'.symm
    subst this; rfl
  | a :: l, o, hh, ho => by
    rw [eachE_cons] at hh ⊢
    generalize h1 : oneE R ml f h a = q1 at hh
    match q1, h1, hh with
    | some none, h1, hh =>
      rw [oneE_fill hR h1 hid hn (fun _ _ q => by cases q)]
      exact eachE_fill hR hid hn hh ho
    | some (some r), h1, hh =>
      simp only at hh
      generalize h2 : eachE R ml f h l = q2 at hh
      match q2, h2, hh with
      | some none, h2, hh =>
        injection hh with hh; subst hh
        rw [oneE_fill hR h1 hid hn (fun r' h' q => ho r' h' q), eachE_fill hR hid hn h2 (fun _ _ q => by cases q)]
        rfl
theorem lock_kept {h : H} {m b : Nat} : Kept h (lockH h m b) := by
  obtain ⟨n, gs, wr, bs, cl⟩ := h
  refine ⟨Nat.le_refl _, rfl, fun i d hd => ?_, fun i hi => ?_, fun i hi hw => ?_, fun _ _ _ => rfl⟩
  · show ∃ b', ((bs.set m (.ro [])).set b (.ro [])).get i = some b'
    by_cases h1 : i = b
    · exact ⟨_, by rw [h1, T.get_set_same]⟩
    · rw [T.get_set_ne _ _ h1]
      by_cases h2 : i = m
      · exact ⟨_, by rw [h2, T.get_set_same]⟩
      · rw [T.get_set_ne _ _ h2]; exact ⟨d, hd⟩
  · show Nat.testBit (note gs b (note gs m wr)) i = true
    have : Nat.testBit wr i = true := hi
    rw [note_bit, note_bit, this]; rfl
  · have hw' : Nat.testBit (note gs b (note gs m wr)) i = false := hw
    rw [note_bit, note_bit] at hw'
    have hi' : i < gs := hi
    have h1 : i ≠ b := by rintro rfl; simp [hi'] at hw'
    have h2 : i ≠ m := by rintro rfl; simp [hi'] at hw'
    show ((bs.set m (.ro [])).set b (.ro [])).get i = bs.get i
    rw [T.get_set_ne _ _ h1, T.get_set_ne _ _ h2]
theorem lock_some {h : H} {m b : Nat} : (lockH h m b).bs.get m = some (.ro []) ∧ (lockH h m b).bs.get b = some (.ro []) := by
  obtain ⟨n, gs, wr, bs, cl⟩ := h
  refine ⟨?_, T.get_set_same _ _ _⟩
  show ((bs.set m (.ro [])).set b (.ro [])).get m = _
  by_cases h1 : m = b
  · rw [h1, T.get_set_same]
  · rw [T.get_set_ne _ _ h1, T.get_set_same]
theorem lock_fill {h : H} {m b id : Nat} {c : B} (h1 : id ≠ m) (h2 : id ≠ b) : lockH (h.fill id c) m b = (lockH h m b).fill id c := by
  obtain ⟨n, gs, wr, bs, cl⟩ := h
  show H.mk _ _ _ (((bs.set id c).set m (.ro [])).set b (.ro [])) _ = .mk _ _ _ (((bs.set m (.ro [])).set b (.ro [])).set id c) _
  rw [T.set_comm bs id m _ _ h1, T.set_comm _ id b _ _ h2]
theorem blockF_eq {id : Nat} {r : Nat × Nat × Fm} {h h' : H} {y : Nat × Nat × Fm} (e : blockF id r h = some (y, h')) : h' = h ∧ ∀ h2, blockF id r h2 = some (y, h2) := by
  obtain ⟨x, i, f⟩ := r
  match x, e with
  | 0, e =>
    obtain ⟨rfl, rfl⟩ := pure_some e
    exact ⟨rfl, fun h2 => rfl⟩
  | 1, e =>
    have e' : (match Nat.beq i id with | true => M.pure (0, 0, f) | false => M.pure (1, i, f) : M (Nat × Nat × Fm)) h = some (y, h') := e
    show h' = h ∧ ∀ h2, (match Nat.beq i id with | true => M.pure (0, 0, f) | false => M.pure (1, i, f) : M (Nat × Nat × Fm)) h2 = some (y, h2)
    cases hq : Nat.beq i id with
    | true =>
      rw [hq] at e'
      obtain ⟨rfl, rfl⟩ := pure_some e'
      exact ⟨rfl, fun h2 => rfl⟩
    | false =>
      rw [hq] at e'
      obtain ⟨rfl, rfl⟩ := pure_some e'
      exact ⟨rfl, fun h2 => rfl⟩
  | x + 2, e =>
    obtain ⟨rfl, rfl⟩ := pure_some e
    exact ⟨rfl, fun h2 => rfl⟩
/-- the entry at which it ends -/
theorem eachE_exit {ml : ML} {f : Fm} {h : H} {r : (Nat × Nat × Fm) × H} : ∀ {l : List (V × V)}, eachE R ml f h l = some (some r) → ∃ e ∈ l, oneE R ml f h e = some (some r)
  | [], hq => by cases hq
  | a :: l, hq => by
    rw [eachE_cons] at hq
    generalize h1 : oneE R ml f h a = q1 at hq
    match q1, h1, hq with
    | some none, h1, hq =>
      obtain ⟨e, he, h3⟩ := eachE_exit hq
      exact ⟨e, List.mem_cons_of_mem _ he, h3⟩
    | some (some r'), h1, hq =>
      simp only at hq
      generalize h2 : eachE R ml f h l = q2 at hq
      match q2, h2, hq with
      | some none, h2, hq =>
        injection hq with hq; injection hq with hq; subst hq
        exact ⟨a, List.mem_cons_self .., h1⟩
theorem Good.mapLoopF (hR : GoodR R) (id : Nat) (ml : ML) (f : Fm) : Good (mapLoopF R id ml f) := by
  unfold Ev.mapLoopF
  refine Good.bind ?_ fun p => ?_
  · repeat' (first | exact Good.pure _ | exact Good.fail | exact Good.getB _ | (refine Good.bind ?_ fun _ => ?_) | split)
  obtain ⟨b, m, l⟩ := p
  simp only
  split
  · refine ⟨fun h y h' e hg => ?_, fun h y h' e hg j c hj hn => ?_⟩
    · generalize hq : eachE R ml (killF f ml.it) (lockH h m b) l = q at e
      match q, hq, e with
      | some none, hq, e =>
        injection e with e; injection e with _ e; subst e
        exact lock_kept
      | some (some (r, h2)), hq, e =>
        obtain ⟨rfl, _⟩ := blockF_eq e
        obtain ⟨e0, _, h3⟩ := eachE_exit hq
        exact lock_kept.trans (oneE_kept hR (by have := lock_kept (h := h) (m := m) (b := b); rw [this.gs]; exact Nat.le_trans hg this.next) h3)
    · generalize hq : eachE R ml (killF f ml.it) (lockH h m b) l = q at e
      have hlk := lock_kept (h := h) (m := m) (b := b)
      match q, hq, e with
      | some none, hq, e =>
        injection e with e; injection e with e0 e; subst e; subst e0
        have h1 : j ≠ m := by rintro rfl; rw [lock_some.1] at hn; cases hn
        have h2 : j ≠ b := by rintro rfl; rw [lock_some.2] at hn; cases hn
        rw [lock_fill h1 h2, eachE_fill hR (Nat.lt_of_lt_of_le hj hlk.next) hn hq (fun _ _ q => by cases q)]
        rfl
      | some (some (r, h3)), hq, e =>
        obtain ⟨rfl, hbl⟩ := blockF_eq e
        obtain ⟨e0, _, h4⟩ := eachE_exit hq
        have hk := oneE_kept hR (by rw [hlk.gs]; exact Nat.le_trans hg hlk.next) h4
        have hn0 : (lockH h m b).bs.get j = none := by
          cases hz : (lockH h m b).bs.get j with
          | none => rfl
          | some d =>
            obtain ⟨d', hd'⟩ := hk.dom j d hz
            rw [hn] at hd'; cases hd'
        have h1 : j ≠ m := by rintro rfl; rw [lock_some.1] at hn0; cases hn0
        have h2 : j ≠ b := by rintro rfl; rw [lock_some.2] at hn0; cases hn0
        rw [lock_fill h1 h2, eachE_fill hR (Nat.lt_of_lt_of_le hj hlk.next) hn0 hq (fun _ _ q => by injection q with q; injection q with _ q; subst q; exact hn)]
        exact hbl _
  · exact Good.fail
theorem Good.codeF (hR : GoodR R) (c : Code) (f : Fm) : Good (codeF P R c f) := by
  unfold Ev.codeF Ev.thenF Ev.blockF Ev.condF
  repeat' (first | exact Good.pure _ | exact Good.fail | exact Good.mapLoopF hR _ _ _ | exact Good.regionF hR _ _ _ | exact hR.code _ _ | exact Good.rangeF hR _ _ _ _ _ | (refine Good.bind ?_ fun _ => ?_) | split)
theorem Good.resV (tm : T V) (l : List ResultVar) : Good (resV P tm l) := by
  induction l with
  | nil => exact Good.pure _
  | cons r l ih =>
    change Good (match r with
      | .tmp t => M.bind (Ev.resV P tm l) fun l => M.pure (tmpV tm t :: l)
      | .cell a t => match tmpV tm a with
        | .ptr b o => M.bind (Ev.loadV P t b o) fun v => M.bind (Ev.resV P tm l) fun l => M.pure (v :: l)
        | _ => M.fail)
    repeat' (first | exact Good.pure _ | exact Good.fail | exact ih | exact Good.loadV _ _ _ | (refine Good.bind ?_ fun _ => ?_) | split)
theorem Good.defersF (hR : GoodR R) (l : List Df) : Good (defersF R l) := by
  unfold Ev.defersF Ev.takeD
  repeat' (first | exact Good.pure _ | exact Good.updB _ _ | exact hR.defers _ | exact hR.call _ _ | (refine Good.bind ?_ fun _ => ?_) | split)
theorem Good.leaveF (hR : GoodR R) (fn : Func) (f : Fm) : Good (leaveF P R fn f) := by
  unfold Ev.leaveF
  exact Good.bind (hR.defers _) fun _ => Good.bind (Good.resV _ _) fun _ => Good.pure _
theorem Good.yieldF (hR : GoodR R) (l : Nat) (args : List V) : Good (yieldF R l args) := by
  unfold Ev.yieldF Ev.endRoundF
  repeat' (first | exact Good.pure _ | exact Good.fail | exact Good.getLoop _ | exact Good.setLoop _ _ _ | exact hR.code _ _ | (refine Good.bind ?_ fun _ => ?_) | split)
theorem Good.extV (x : Nat) (l : List V) : Good (extV x l) := by
  unfold Ev.extV
  repeat' (first | exact Good.pure _ | exact Good.fail | split)
theorem Good.callF (hR : GoodR R) (K : Known) (f : V) (args : List V) : Good (callF P R K f args) := by
  unfold Ev.callF Ev.enterF
  repeat' (first | exact Good.pure _ | exact Good.fail | exact Good.yieldF hR _ _ | exact Good.extV _ _ | exact hR.call _ _ | exact hR.code _ _ | exact Good.leaveF hR _ _ | (refine Good.bind ?_ fun _ => ?_) | split)
/-- EVERY RUN IS GOOD -/
theorem goodR (P : Program) (K : Known) : ∀ n, GoodR (evN P K n)
  | 0 => ⟨fun _ _ => Good.fail, fun _ _ _ => Good.fail, fun _ _ _ _ => Good.fail, fun _ _ => Good.fail, fun _ => Good.fail⟩
  | n + 1 => ⟨fun c f => Good.codeF (goodR P K n) c f, fun a l f => Good.opsF (goodR P K n) a l f, fun a s l f => Good.drawF (goodR P K n) a s l f,
      fun f a => Good.callF (goodR P K n) K f a, fun l => Good.defersF (goodR P K n) l⟩
end Go.Ev
