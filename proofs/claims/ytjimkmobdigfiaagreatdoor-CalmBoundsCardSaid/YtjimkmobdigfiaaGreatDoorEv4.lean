/- THE EVALUATOR, part 5: a run of it, asked of the kernel, shows what the program comes to. Nothing of a program stands here. -/
import Derived.Below
import Derived.Test.YtjimkmobdigfiaaGreatDoorEv3
set_option linter.unusedSimpArgs false
set_option linter.unusedVariables false
/- Statements. -/
namespace Go.Ev
open Go
variable {P : Program} {G : Nat → Option (List V)} {R : Recs} {ρ : Rn} {h : H} {w : World}

/-- where a statement's run comes to: behind it; at a jump out of it; at a return -/
def To (P : Program) (b : Frame) (m : Machine) (x id : Nat) (tmps : Array Value) (ds : List Deferred) (w : World) (k : List Item) (cs : List Frame) : Prop := match x with
  | 0 => Steps P m (lone (frm b tmps ds k) cs w)
  | 1 => ∃ k', exitTo id k' = exitTo id k ∧ Steps P m (lone (frm b tmps ds (.code (.exit id) :: k')) cs w)
  | _ => ∃ k', Steps P m (lone (frm b tmps ds (.code .ret :: k')) cs w)
section
variable {b : Frame} {m m1 : Machine} {x id : Nat} {tmps : Array Value} {ds : List Deferred} {k : List Item} {cs : List Frame}
theorem To.pre (h1 : Steps P m m1) (h2 : To P b m1 x id tmps ds w k cs) : To P b m x id tmps ds w k cs := by
  match x, h2 with
  | 0, h2 => exact h1.trans h2
  | 1, ⟨k', a, c⟩ => exact ⟨k', a, h1.trans c⟩
  | _ + 2, ⟨k', c⟩ => exact ⟨k', h1.trans c⟩
/-- a jump, through an item that no jump ends at -/
theorem To.pass {it : Item} (hx : x ≠ 0) (hi : exitTo id (it :: k) = exitTo id k) (h2 : To P b m x id tmps ds w (it :: k) cs) : To P b m x id tmps ds w k cs := by
  match x, hx, h2 with
  | 0, hx, _ => exact absurd rfl hx
  | 1, _, ⟨k', a, c⟩ => exact ⟨k', a.trans hi, c⟩
  | _ + 2, _, ⟨k', c⟩ => exact ⟨k', c⟩
end
def STo (P : Program) (b : Frame) (c : Code) (tmps : Array Value) (ds : List Deferred) (w : World) (x id : Nat) (tmps' : Array Value) (ds' : List Deferred) (w' : World) : Prop :=
  ∀ b', Alike b b' → ∀ k cs, Calm b'.kind cs → To P b' (lone (frm b' tmps ds (.code c :: k)) cs w) x id tmps' ds' w' k cs
/-- statements are sound -/
def SCode (P : Program) (G : Nat → Option (List V)) (R : Recs) : Prop := ∀ (c : Code) (f : Fm) (h : H) (x id : Nat) (f' : Fm) (h' : H), R.code c f h = some ((x, id, f'), h') → ∀ ρ w b tmps ds,
  HR P ρ h w → Ctx P G ρ h → FR ρ b f tmps ds → Out P ρ h w b f' h' (STo P b c tmps ds w x id)

theorem steps_from {m m1 t : Machine} (h1 : step P m = .next m1) (h2 : Steps P m t) (hne : m ≠ t) : Steps P m1 t := by
  obtain ⟨n, hn⟩ := h2
  cases n with
  | zero => simp [runN] at hn; exact absurd hn hne
  | succ n =>
    simp only [runN, h1] at hn
    exact ⟨n, hn⟩
theorem frm_todo_ne {b : Frame} {tmps tmps' : Array Value} {ds ds' : List Deferred} {k k' : List Item} {cs : List Frame} {w w' : World} (hne : k ≠ k') : lone (frm b tmps ds k) cs w ≠ lone (frm b tmps' ds' k') cs w' := by
  intro e
  have : (lone (frm b tmps ds k) cs w).gs = (lone (frm b tmps' ds' k') cs w').gs := by rw [e]
  simp [lone, frm] at this
  exact hne this.2.1
theorem cons_ne {α : Type} (a : α) (l : List α) : a :: l ≠ l := fun e => by have := congrArg List.length e; simp at this

theorem thenF_cases {r : Nat × Nat × Fm} {k : Fm → M (Nat × Nat × Fm)} {h h' : H} {y : Nat × Nat × Fm} (e : thenF r k h = some (y, h')) : (r.1 = 0 ∧ k r.2.2 h = some (y, h')) ∨ (r.1 ≠ 0 ∧ y = r ∧ h' = h) := by
  obtain ⟨x, id, f⟩ := r
  cases x with
  | zero => exact .inl ⟨rfl, e⟩
  | succ x =>
    obtain ⟨e1, e2⟩ := pure_some e
    exact .inr ⟨by simp, e1, e2⟩

theorem codeF_sound (hm : P.follows .mixedOrders = true) (hR : GoodR R) (hs : SCall P G R) (ho : SOps P G R) (hD : SDraw P R) (hc0 : SCode P G R)
    (hrf : ∀ {g : Operand} {ps : Array Nat} {a bd : Code} {f : Fm} {h : H} {x id : Nat} {f' : Fm} {h' : H}, rangeF P R g ps a bd f h = some ((x, id, f'), h') → ∀ ρ w b tmps ds, HR P ρ h w → Ctx P G ρ h → FR ρ b f tmps ds →
      Out P ρ h w b f' h' (STo P b (.rangeFunc g ps a bd) tmps ds w x id))
    (hml : ∀ {bid : Nat} {c : Code} {ml : ML} {f : Fm} {h : H} {x id : Nat} {f' : Fm} {h' : H}, loopParts bid c = some ml → mapLoopF R bid ml f h = some ((x, id, f'), h') → ∀ ρ w b tmps ds, HR P ρ h w → Ctx P G ρ h → FR ρ b f tmps ds →
      Out P ρ h w b f' h' (STo P b (.block bid c) tmps ds w x id))
    {c : Code} {f : Fm} {x id : Nat} {f' : Fm} {h' : H} {b : Frame} {tmps : Array Value} {ds : List Deferred} (e : codeF P R c f h = some ((x, id, f'), h')) (hr : HR P ρ h w) (hc : Ctx P G ρ h) (hf : FR ρ b f tmps ds) :
    Out P ρ h w b f' h' (STo P b c tmps ds w x id) := by
  cases c <;> simp only [codeF] at e <;> first | (cases e; done) | skip
  case skip =>
    obtain ⟨e1, rfl⟩ := pure_some e
    cases e1
    exact ⟨ρ, tmps, ds, w, Ext.refl _ _ _, hr, hf, fun b hal k cs _ => .one st_skip⟩
  case label l =>
    obtain ⟨e1, rfl⟩ := pure_some e
    cases e1
    exact ⟨ρ, tmps, ds, w, Ext.refl _ _ _, hr, hf, fun b hal k cs _ => .one st_label⟩
  case exit l =>
    obtain ⟨e1, rfl⟩ := pure_some e
    cases e1
    exact ⟨ρ, tmps, ds, w, Ext.refl _ _ _, hr, hf, fun b hal k cs _ => ⟨k, rfl, .refl _ _⟩⟩
  case ret =>
    obtain ⟨e1, rfl⟩ := pure_some e
    cases e1
    exact ⟨ρ, tmps, ds, w, Ext.refl _ _ _, hr, hf, fun b hal k cs _ => ⟨k, .refl _ _⟩⟩
  case region rid ops d =>
    obtain ⟨f1, h1, e1, e2⟩ := bind_some e
    obtain ⟨e3, rfl⟩ := pure_some e2
    cases e3
    exact regionF_sound hm hR hs ho hD e1 hr hc hf
  case cond c a bd =>
    have hx := hf.hx hc c
    generalize opd P f.tm c = q at e hx
    unfold condF at e
    match q, hx, e with
    | .bool true, hx, e =>
      obtain ⟨ρ', tmps', ds', w', x1, r1, f1, s1⟩ := hc0 _ _ _ _ _ _ _ e ρ w b tmps ds hr hc hf
      exact ⟨ρ', tmps', ds', w', x1, r1, f1, fun b hal k cs hcs => To.pre (.one (st_cond (t := true) (VR.bool_inv hx))) (s1 b hal k cs hcs)⟩
    | .bool false, hx, e =>
      obtain ⟨ρ', tmps', ds', w', x1, r1, f1, s1⟩ := hc0 _ _ _ _ _ _ _ e ρ w b tmps ds hr hc hf
      exact ⟨ρ', tmps', ds', w', x1, r1, f1, fun b hal k cs hcs => To.pre (.one (st_cond (t := false) (VR.bool_inv hx))) (s1 b hal k cs hcs)⟩
  case seq a bd =>
    obtain ⟨⟨x1, i1, f1⟩, h1, e1, e2⟩ := bind_some e
    obtain ⟨ρ1, tmps1, ds1, w1, xx1, r1, fr1, s1⟩ := hc0 _ _ _ _ _ _ _ e1 ρ w b tmps ds hr hc hf
    rcases thenF_cases e2 with ⟨hx, e3⟩ | ⟨hx, e3, rfl⟩
    · simp only at hx e3
      subst hx
      obtain ⟨ρ2, tmps2, ds2, w2, xx2, r2, fr2, s2⟩ := hc0 _ _ _ _ _ _ _ e3 ρ1 w1 b tmps1 ds1 r1 (hc.ext xx1) fr1
      exact ⟨ρ2, tmps2, ds2, w2, xx1.trans xx2, r2, fr2, fun b hal k cs hcs => To.pre (.head st_seq (s1 b hal (.code bd :: k) cs hcs)) (s2 b hal k cs hcs)⟩
    · cases e3
      exact ⟨ρ1, tmps1, ds1, w1, xx1, r1, fr1, fun b hal k cs hcs => To.pre (.one st_seq) (To.pass hx rfl (s1 b hal (.code bd :: k) cs hcs))⟩
  case block bid c =>
    generalize hlp : loopParts bid c = lp at e
    cases lp with
    | some ml => exact hml hlp e ρ w b tmps ds hr hc hf
    | none =>
    simp only at e
    obtain ⟨⟨x1, i1, f1⟩, h1, e1, e2⟩ := bind_some e
    obtain ⟨ρ1, tmps1, ds1, w1, xx1, r1, fr1, s1⟩ := hc0 _ _ _ _ _ _ _ e1 ρ w b tmps ds hr hc hf
    match x1, e2, s1 with
    | 0, e2, s1 =>
      obtain ⟨e3, rfl⟩ := pure_some e2
      cases e3
      exact ⟨ρ1, tmps1, ds1, w1, xx1, r1, fr1, fun b hal k cs hcs => .head st_block ((s1 b hal (.inBlock bid :: k) cs hcs : Steps _ _ _).trans (.one st_inBlock))⟩
    | 1, e2, s1 =>
      simp only [blockF] at e2
      cases hq : Nat.beq i1 bid with
      | true =>
        rw [hq] at e2
        have hi : i1 = bid := beq_nat.1 hq
        obtain ⟨e3, rfl⟩ := pure_some e2
        cases e3
        refine ⟨ρ1, tmps1, ds1, w1, xx1, r1, fr1, fun b hal k cs hcs => ?_⟩
        obtain ⟨k', a, c⟩ := s1 b hal (.inBlock bid :: k) cs hcs
        have hk : exitTo i1 k' = some k := by rw [a, hi]; simp [exitTo]
        exact .head st_block (c.trans (.one (st_exit hk)))
      | false =>
        rw [hq] at e2
        have hi : i1 ≠ bid := beq_nat_false.1 hq
        obtain ⟨e3, rfl⟩ := pure_some e2
        cases e3
        refine ⟨ρ1, tmps1, ds1, w1, xx1, r1, fr1, fun b hal k cs hcs => ?_⟩
        obtain ⟨k', a, c⟩ := s1 b hal (.inBlock bid :: k) cs hcs
        have hk : ∀ j, j ≠ bid → exitTo j (.inBlock bid :: k) = exitTo j k := by
          intro j hj
          have : (bid == j) = false := by simp; exact fun q => hj q.symm
          simp [exitTo, this]
        exact ⟨k', a.trans (hk _ hi), .head st_block c⟩
    | n + 2, e2, s1 =>
      obtain ⟨e3, rfl⟩ := pure_some e2
      cases e3
      refine ⟨ρ1, tmps1, ds1, w1, xx1, r1, fr1, fun b hal k cs hcs => ?_⟩
      obtain ⟨k', c⟩ := s1 b hal (.inBlock bid :: k) cs hcs
      exact ⟨k', .head st_block c⟩
  case loop c =>
    obtain ⟨⟨x1, i1, f1⟩, h1, e1, e2⟩ := bind_some e
    obtain ⟨ρ1, tmps1, ds1, w1, xx1, r1, fr1, s1⟩ := hc0 _ _ _ _ _ _ _ e1 ρ w b tmps ds hr hc hf
    rcases thenF_cases e2 with ⟨hx, e3⟩ | ⟨hx, e3, rfl⟩
    · simp only at hx e3
      subst hx
      obtain ⟨ρ2, tmps2, ds2, w2, xx2, r2, fr2, s2⟩ := hc0 _ _ _ _ _ _ _ e3 ρ1 w1 b tmps1 ds1 r1 (hc.ext xx1) fr1
      refine ⟨ρ2, tmps2, ds2, w2, xx1.trans xx2, r2, fr2, fun b hal k cs hcs => ?_⟩
      refine To.pre (m1 := lone (frm b tmps1 ds1 (.code c :: .inLoop c :: k)) cs w1) (.head st_loop ((s1 b hal (.inLoop c :: k) cs hcs : Steps _ _ _).trans (.one st_inLoop))) ?_
      have hs2 := s2 b hal k cs hcs
      match x, hs2 with
      | 0, hs2 => exact steps_from st_loop hs2 (frm_todo_ne (cons_ne _ _))
      | 1, ⟨k', a, q⟩ => exact ⟨k', a, steps_from st_loop q (frm_todo_ne (by intro q; cases q))⟩
      | n + 2, ⟨k', q⟩ => exact ⟨k', steps_from st_loop q (frm_todo_ne (by intro q; cases q))⟩
    · cases e3
      exact ⟨ρ1, tmps1, ds1, w1, xx1, r1, fr1, fun b hal k cs hcs => To.pre (.one st_loop) (To.pass hx rfl (s1 b hal (.inLoop c :: k) cs hcs))⟩
  case scope c =>
    obtain ⟨ρ1, tmps1, ds1, w1, xx1, r1, fr1, s1⟩ := hc0 _ _ _ _ _ _ _ e ρ w b tmps ds hr hc hf
    refine ⟨ρ1, tmps1, ds1, w1, xx1, r1, fr1, fun b hal k cs hcs => ?_⟩
    have hs1 := s1 b hal (.inScope c :: k) cs hcs
    by_cases hx : x = 0
    · subst hx
      exact .head st_scope ((hs1 : Steps _ _ _).trans (.one st_inScope))
    · exact To.pre (.one st_scope) (To.pass hx rfl hs1)
  case rangeFunc g ps a bd => exact hrf e ρ w b tmps ds hr hc hf
end Go.Ev
/- What a round that changes nothing leaves: the same relation; the entries of a map. -/
namespace Go.Ev
open Go
variable {P : Program} {G : Nat → Option (List V)} {R : Recs} {ρ ρ' : Rn} {h : H} {w : World}

-- ONE VALUE

theorem eq1_eq {x y : V} (h : eq1 x y = true) : x = y := by
  unfold eq1 at h
  split at h <;> first | rfl | (cases h; done) | skip
  · rename_i a b; rw [beq_eq] at h; simp at h; rw [h]
  · rename_i k a j b
    split at h
    · rename_i hk; rw [ieq_eq] at h; simp at h; rw [sameK_eq hk, h]
    · cases h
  · rename_i a n b m
    split at h
    · rename_i hn; rw [beq_nat.1 hn, (leq_iff _ _).1 h]
    · cases h
theorem eqVs_eq {g : V → V → Bool} (hg : ∀ {x y : V}, g x y = true → x = y) : ∀ {a b : List V}, eqVs g a b = true → a = b
  | [], [], _ => rfl
  | [], _ :: _, h => by cases h
  | _ :: _, [], h => by cases h
  | x :: a, y :: b, h => by
    change (match g x y with | true => eqVs g a b | false => false) = true at h
    cases hq : g x y with
    | false => rw [hq] at h; cases h
    | true => rw [hq] at h; rw [hg hq, eqVs_eq hg h]
theorem eqCap_eq {a b : Cap} (h : eqCap a b = true) : a = b := by
  cases a <;> cases b <;> first | (cases h; done) | (unfold eqCap at h; rw [beq_nat.1 h])
theorem eqF_eq : ∀ {d : Nat} {x y : V}, eqF d x y = true → x = y
  | 0, _, _, h => by cases h
  | d + 1, x, y, h => by
    have ih : ∀ {x y : V}, eqF d x y = true → x = y := eqF_eq
    change eqStep (eqF d) x y = true at h
    unfold eqStep at h
    split at h
    · split at h
      · rename_i e; rw [beq_nat.1 e, beq_nat.1 h]
      · cases h
    · split at h
      · rename_i e1 e2 e3; rw [beq_nat.1 e1, beq_nat.1 e2, beq_nat.1 e3, eqCap_eq h]
      · cases h
    · rw [beq_nat.1 h]
    · rw [beq_nat.1 h]
    · split at h
      · rename_i e1 e2; rw [beq_nat.1 e1, eqVs_eq ih e2, eqVs_eq ih h]
      · cases h
    · split at h
      · rename_i e; rw [beq_nat.1 e, ih h]
      · cases h
    · rw [eqVs_eq ih h]
    · rw [eqVs_eq ih h]
    · exact eq1_eq h

-- BACK TO WHAT WAS KNOWN BEFORE

mutual
theorem VR.back (hle : ρ.le ρ') : ∀ {v : V} {u u' : Value}, VR ρ v u → VR ρ' v u' → VR ρ v u'
  | _, _, _, .bool b, h => by cases h; exact .bool b
  | _, _, _, .int k n, h => by cases h; exact .int k n
  | _, _, _, .str l n s hl hn, h => by cases h with | str _ _ s' hl' hn' => exact .str l n s' hl' hn'
  | _, _, _, .ptr b o loc hb, h => by
    cases h with
    | ptr _ _ loc' hb' =>
      have e := hle _ _ hb
      rw [hb'] at e; injection e with e; subst e
      exact .ptr b o _ hb
  | _, _, _, .nilp, h => by cases h; exact .nilp
  | _, _, _, .slx b o len c loc hb hc, h => by
    cases h with
    | slx _ _ _ _ loc' hb' hc' =>
      have e := hle _ _ hb
      rw [hb'] at e; injection e with e; subst e
      exact .slx b o len c _ hb hc
  | _, _, _, .sle b o len d loc hb hc, h => by
    cases h with
    | sle _ _ _ _ loc' hb' hc' =>
      have e := hle _ _ hb
      rw [hb'] at e; injection e with e; subst e
      exact .sle b o len d _ hb hc
  | _, _, _, .nils, h => by cases h; exact .nils
  | _, _, _, .sl0 a c, h => by cases h with | sl0 a' c' => exact .sl0 a' c'
  | _, _, _, .map r loc hb, h => by
    cases h with
    | map _ loc' hb' =>
      have e := hle _ _ hb
      rw [hb'] at e; injection e with e; subst e
      exact .map r _ hb
  | _, _, _, .nilm, h => by cases h; exact .nilm
  | _, _, _, .fn f a c a' c' hf ha hc, h => by
    cases h with
    | fn _ _ _ a2 c2 hf' ha' hc' => exact .fn f a c a2 c2 hf (VRs.back hle ha ha') (VRs.back hle hc hc')
  | _, _, _, .yield l loc hb, h => by
    cases h with
    | yield _ loc' hb' =>
      have e := hle _ _ hb
      rw [hb'] at e; injection e with e; subst e
      exact .yield l _ hb
  | _, _, _, .nilf, h => by cases h; exact .nilf
  | _, _, _, .iface t v v' hv, h => by cases h with | iface _ _ v2 hv' => exact .iface t v v2 (VR.back hle hv hv')
  | _, _, _, .nili, h => by cases h; exact .nili
  | _, _, _, .agg l l' hl h1, h => by cases h with | agg _ l2 hl' h1' => exact .agg l l2 (VRs.back hle hl hl') h1
  | _, _, _, .tup l l' hl, h => by cases h with | tup _ l2 hl' => exact .tup l l2 (VRs.back hle hl hl')
  | _, _, _, .rng k lo hi n h1 h2, h => by cases h with | rng _ _ _ n' h1' h2' => exact .rng k lo hi n' h1' h2'
  | _, _, _, .bad v, h => .bad _
theorem VRs.back (hle : ρ.le ρ') : ∀ {l : List V} {u u' : List Value}, VRs ρ l u → VRs ρ' l u' → VRs ρ l u'
  | _, _, _, .nil, h => by cases h; exact .nil
  | _, _, _, .cons v v' l l' hv hs, h => by cases h with | cons _ v2 _ l2 hv' hs' => exact .cons v v2 l l2 (VR.back hle hv hv') (VRs.back hle hs hs')
end
theorem CellsAt.back (hle : ρ.le ρ') {cs cs' : Array Value} {sh : Nat} {c : List V} (h : CellsAt ρ cs sh c) (h' : CellsAt ρ' cs' sh c) : CellsAt ρ cs' sh c := by
  intro j v hj
  obtain ⟨u, _, b⟩ := h j v hj
  obtain ⟨u', a', b'⟩ := h' j v hj
  exact ⟨u', a', b.back hle b'⟩
theorem TmR.back (hle : ρ.le ρ') {tm : T V} {n : Nat} {a a' : Array Value} (h : TmR ρ tm n a) (h' : TmR ρ' tm n a') : TmR ρ tm n a' :=
  ⟨h'.1, fun i hi => (h.2 i hi).back hle (h'.2 i hi)⟩
theorem EsR.back (hle : ρ.le ρ') {l : List (V × V × Nat)} {a a' : List MapEntry} (h : EsR ρ l a) (h' : EsR ρ' l a') : EsR ρ l a' := by
  induction h generalizing a' with
  | nil => cases h'; exact .nil
  | cons k v n e l l' hk hv hn hs ih =>
    cases h' with
    | cons _ _ _ e2 _ l2 hk2 hv2 hn2 hs2 => exact .cons k v n e2 l l2 (hk.back hle hk2) (hv.back hle hv2) hn2 (ih hs2)
theorem SmR.back (hle : ρ.le ρ') {k : IntKind} {l : List (Nat × V)} {a a' : List MapEntry} (h : SmR ρ k l a) (h' : SmR ρ' k l a') : SmR ρ k l a' := by
  refine ⟨h.sorted, fun n v hv => ?_, fun e he => ?_, h'.apart⟩
  · obtain ⟨e1, _, _, c1⟩ := h.there n v hv
    obtain ⟨e2, a2, b2, c2⟩ := h'.there n v hv
    exact ⟨e2, a2, b2, c1.back hle c2⟩
  · obtain ⟨n, v, a2, b2, c2⟩ := h'.here e he
    obtain ⟨e1, _, _, c1⟩ := h.there n v a2
    exact ⟨n, v, a2, b2, c1.back hle c2⟩
theorem LR.back (hle : ρ.le ρ') {r : LoopB} {l l' : Loop} (h : LR ρ r l) (h' : LR ρ' r l') : LR ρ r l' := by
  refine ⟨h'.state, h'.pending, h'.fn, h.tm.back hle h'.tm, h'.low, h'.params, h'.assign, h'.body, ?_⟩
  obtain ⟨loc, a, b⟩ := h.dfr
  obtain ⟨loc', a', b'⟩ := h'.dfr
  have e := hle _ _ a
  rw [a'] at e; injection e with e; subst e
  exact ⟨_, a, b'⟩
theorem BR.back (hle : ρ.le ρ') {cl : T Cl} {b : B} {loc : Loc} {w w' : World} (h : BR P ρ cl b loc w) (h' : BR P ρ' cl b loc w') : BR P ρ cl b loc w' := by
  cases b with
  | cells c e k =>
    cases k with
    | zero =>
      obtain ⟨_, _, cs, _, _, g⟩ := h
      obtain ⟨h1, h2, cs', h3, h4, g'⟩ := h'
      exact ⟨h1, h2, cs', h3, h4, g.back hle g'⟩
    | succ k =>
      obtain ⟨_, cs, fz, _, _, _, _, g, _⟩ := h
      obtain ⟨h1, cs', fz', h3, h4, h5, h6, g', h8⟩ := h'
      exact ⟨h1, cs', fz', h3, h4, h5, h6, g.back hle g', h8⟩
  | ro c =>
    obtain ⟨h1, h2⟩ := h'
    refine ⟨h1, ?_⟩
    rcases h.2 with x | ⟨_, cs, e, fz, _, g⟩
    · exact .inl x
    · rcases h2 with x | ⟨hsh, cs', e', fz', h3, g'⟩
      · exact .inl x
      · exact .inr ⟨hsh, cs', e', fz', h3, g.back hle g'⟩
  | hid => trivial
  | map es n =>
    obtain ⟨_, _, g⟩ := h
    obtain ⟨es', h1, g'⟩ := h'
    exact ⟨es', h1, g.back hle g'⟩
  | smap k es =>
    obtain ⟨_, _, g, _⟩ := h
    obtain ⟨es', h1, g', h3⟩ := h'
    exact ⟨es', h1, g.back hle g', h3⟩
  | mit m since =>
    obtain ⟨ml, a, _, _⟩ := h
    obtain ⟨ml', a', h2, h3⟩ := h'
    have e := hle _ _ a
    rw [a'] at e; injection e with e; subst e
    exact ⟨_, a, h2, h3⟩
  | iter s p => exact h'
  | loop r =>
    obtain ⟨_, _, g⟩ := h
    obtain ⟨l', h1, g'⟩ := h'
    exact ⟨l', h1, g.back hle g'⟩
  | dfr t => exact h'

/-- a world behind a round that writes nothing of what was there -/
theorem HR.keep {h' : H} {w' : World} (hr : HR P ρ h w) (hr' : HR P ρ' h' w') (x : Ext ρ h w ρ' h' w') (hb : ∀ i, i < h.next → h'.bs.get i = h.bs.get i)
    (hc : ∀ k, 0 < k → k - 1 < h.next → h'.cl.get k = h.cl.get k) : HR P ρ h w' := by
  have hle := x.le
  have hcb : ∀ i b, h.bs.get i = some b → 0 < clsOf b → h'.cl.get (clsOf b) = h.cl.get (clsOf b) := fun i b hi hp => hc _ hp (by have := hr.cls i b hi; omega)
  have hlv : ∀ i b, h.bs.get i = some b → Lv h.cl i b → Lv h'.cl i b := fun i b hi hl => hl.congr fun hp => hcb i b hi hp
  have hbb : ∀ i b, h.bs.get i = some b → h'.bs.get i = some b := fun i b hi => (hb i (hr.lt i b hi)).trans hi
  refine ⟨hr.dom, hr.lt, fun i l hl => Nat.lt_of_lt_of_le (hr.inb i l hl) x.size, fun i b loc hi hl hρ => ?_, ?_, ?_, hr.cls, hr.gs, ?_⟩
  · have g := hr.blk i b loc hi hl hρ
    have g' := hr'.blk i b loc (hbb i b hi) (hlv i b hi hl) (hle _ _ hρ)
    refine g.back hle (g'.mono P (Rn.le_refl ρ') rfl ?_)
    intro c e k a l hbc hk
    have := hcb i b hi (by rw [hbc]; exact Nat.succ_pos k)
    rw [hbc] at this
    simp only [clsOf] at this
    exact ⟨a, l, by rw [this]; exact hk⟩
  · intro i j b c li lj hi hj hli hlj hρi hρj e
    exact hr'.apart i j b c li lj (hbb i b hi) (hbb j c hj) (hlv i b hi hli) (hlv j c hj hlj) (hle _ _ hρi) (hle _ _ hρj) e
  · intro k a l fz b c la ll hk ha hl hca hcl hρa hρl e
    have := hcb a b ha (by rw [hca]; exact Nat.succ_pos k)
    rw [hca] at this
    exact hr'.chain k a l fz b c la ll (this.trans hk) (hbb a b ha) (hbb l c hl) hca hcl (hle _ _ hρa) (hle _ _ hρl) e
  · intro i c e k loc hi hρ
    exact hr'.cell i c e k loc (hbb i _ hi) (hle _ _ hρ)

/-- of a block nothing is known any more -/
theorem HR.toRo {h' : H} (hr : HR P ρ h w) {m : Nat} {bm : B} (hm : h.bs.get m = some bm) (hc : clsOf bm = 0) (hnx : h'.next = h.next) (hgs : h'.gs = h.gs) (hbs : h'.bs = h.bs.set m (.ro [])) (hcl : h'.cl = h.cl) : HR P ρ h' w := by
  have hget : ∀ i, i ≠ m → h'.bs.get i = h.bs.get i := fun i hi => by rw [hbs, T.get_set_ne _ _ hi]
  have hgm : h'.bs.get m = some (.ro []) := by rw [hbs, T.get_set_same]
  have hlm : Lv h.cl m bm := by
    cases bm with
    | cells c e k => cases k with
      | zero => trivial
      | succ k => simp [clsOf] at hc
    | _ => trivial
  -- each block was there, and live, of the class that it is of now
  have was : ∀ i b, h'.bs.get i = some b → ∃ b0, h.bs.get i = some b0 ∧ clsOf b0 = clsOf b ∧ (Lv h'.cl i b → Lv h.cl i b0) ∧ (i ≠ m → b0 = b) := by
    intro i b hi
    by_cases q : i = m
    · subst q
      rw [hgm] at hi; injection hi with hi; subst hi
      exact ⟨bm, hm, hc, fun _ => hlm, fun q => absurd rfl q⟩
    · rw [hget i q] at hi
      exact ⟨b, hi, rfl, fun hl => by rw [hcl] at hl; exact hl, fun _ => rfl⟩
  refine ⟨fun i => ?_, fun i b hi => ?_, hr.inb, fun i b loc hi hl hρ => ?_, ?_, ?_, fun i b hi => ?_, by rw [hgs, hnx]; exact hr.gs, ?_⟩
  · rw [hr.dom i]
    by_cases q : i = m
    · subst q; exact ⟨fun _ => ⟨_, hgm⟩, fun _ => ⟨_, hm⟩⟩
    · rw [hget i q]
  · obtain ⟨b0, h0, _⟩ := was i b hi
    rw [hnx]; exact hr.lt i b0 h0
  · by_cases q : i = m
    · subst q
      rw [hgm] at hi; injection hi with hi; subst hi
      exact ⟨rfl, .inl rfl⟩
    · rw [hget i q] at hi
      rw [hcl] at hl ⊢
      exact hr.blk i b loc hi hl hρ
  · intro i j b c li lj hi hj hli hlj hρi hρj e
    obtain ⟨b0, h0, k0, l0, _⟩ := was i b hi
    obtain ⟨c0, g0, j0, m0, _⟩ := was j c hj
    rcases hr.apart i j b0 c0 li lj h0 g0 (l0 hli) (m0 hlj) hρi hρj e with x | ⟨x, y⟩
    · exact .inl x
    · exact .inr ⟨by rw [← k0]; exact x, by rw [← k0, ← j0]; exact y⟩
  · intro k a l fz b c la ll hk ha hl hca hcl' hρa hρl e
    rw [hcl] at hk
    have na : a ≠ m := by rintro rfl; rw [hgm] at ha; injection ha with ha; subst ha; simp [clsOf] at hca
    have nl : l ≠ m := by rintro rfl; rw [hgm] at hl; injection hl with hl; subst hl; simp [clsOf] at hcl'
    rw [hget a na] at ha
    rw [hget l nl] at hl
    exact hr.chain k a l fz b c la ll hk ha hl hca hcl' hρa hρl e
  · obtain ⟨b0, h0, k0, _⟩ := was i b hi
    rw [hnx, ← k0]; exact hr.cls i b0 h0
  · intro i c e k loc hi hρ
    have q : i ≠ m := by rintro rfl; rw [hgm] at hi; cases hi
    rw [hget i q] at hi
    exact hr.cell i c e k loc hi hρ
theorem HR.lock (hr : HR P ρ h w) {m b : Nat} {bm bb : B} (hm : h.bs.get m = some bm) (hc : clsOf bm = 0) (hb : h.bs.get b = some bb) (hcb : clsOf bb = 0) (hne : b ≠ m) : HR P ρ (lockH h m b) w := by
  obtain ⟨n, gs, wr, bs, cl⟩ := h
  have h1 : HR P ρ (.mk n gs (note gs m wr) (bs.set m (.ro [])) cl) w := hr.toRo hm hc rfl rfl rfl rfl
  exact h1.toRo (m := b) (bm := bb) ((T.get_set_ne _ _ hne).trans hb) hcb rfl rfl rfl rfl
/-- who stands where a map stands, or an iterator: it alone -/
theorem alone_at (hr : HR P ρ h w) {x : Nat} {bx : B} {loc : Loc} (hx : h.bs.get x = some bx) (ho : bx.isObj = true) (hρ : ρ x = some loc) (i : Nat) (l : Loc) (hi : ρ i = some l) (e : l.blk = loc.blk) : i = x := by
  obtain ⟨bi, hbi⟩ := (hr.dom i).1 ⟨l, hi⟩
  have hlx : Lv h.cl x bx := by cases bx <;> first | trivial | cases ho
  have hcx : clsOf bx = 0 := by cases bx <;> first | rfl | cases ho
  by_cases hl : Lv h.cl i bi
  · rcases hr.apart i x bi bx l loc hbi hx hl hlx hi hρ e with z | ⟨z, y⟩
    · exact z
    · rw [hcx] at y; omega
  · cases bi with
    | cells c e' k =>
      cases k with
      | zero => exact absurd trivial hl
      | succ k =>
        have := hr.cell i c e' k l hbi hi
        rw [e] at this
        exact absurd this ((hr.blk x bx loc hx hlx hρ).notC P ho)
    | _ => exact absurd trivial hl
/-- the iterator goes on -/
theorem HR.iter {w1 : World} (hr : HR P ρ h w) {x r : Nat} {o : Obj} (hx : h.bs.get x = some (.ro [])) (hal : ∀ i l, ρ i = some l → l.blk = r → i = x) (hw : w1.heap = w.heap.setIfInBounds r o) : HR P ρ h w1 := by
  have hold : ∀ c, c ≠ r → w1.heap[c]? = w.heap[c]? := fun c hc => by rw [hw, Array.getElem?_setIfInBounds, if_neg (fun e => hc e.symm)]
  refine ⟨hr.dom, hr.lt, fun i l hl => by rw [hw]; simp only [Array.size_setIfInBounds]; exact hr.inb i l hl, fun i b loc hi hl hρ => ?_, hr.apart, hr.chain, hr.cls, hr.gs, fun i c e k loc hi hρ => ?_⟩
  · by_cases q : loc.blk = r
    · have := hal i loc hρ q
      subst this
      rw [hx] at hi; injection hi with hi; subst hi
      exact ⟨rfl, .inl rfl⟩
    · exact (hr.blk i b loc hi hl hρ).mono P (Rn.le_refl ρ) (hold _ q) (fun _ _ _ a l _ hk => ⟨a, l, hk⟩)
  · have q : loc.blk ≠ r := by
      intro q
      have := hal i loc hρ q
      subst this
      rw [hx] at hi; cases hi
    rw [hold _ q]; exact hr.cell i c e k loc hi hρ
theorem Ext.iter {h1 : H} {w1 w2 : World} (a : Ext ρ h w ρ h1 w1) {x r : Nat} {bx : B} {loc : Loc} {o : Obj} (hx : h.bs.get x = some bx) (hnr : ∀ r, bx ≠ .ro r) (hρ : ρ x = some loc) (hr : loc.blk = r)
    (hw : w2.heap = w1.heap.setIfInBounds r o) (g1 : w2.os = w1.os) (g2 : w2.output = w1.output) (g3 : w2.tape = w1.tape) : Ext ρ h w ρ h1 w2 := by
  refine ⟨a.le, by rw [hw]; simp only [Array.size_setIfInBounds]; exact a.size, fun c hc hro => ?_, a.new, a.ro, g1.trans a.os, g2.trans a.output, g3.trans a.tape⟩
  have hne : r ≠ c := by
    intro q
    obtain ⟨s, hs⟩ := hro x loc hρ (hr.trans q)
    rw [hx] at hs; injection hs with hs
    exact hnr s hs
  rw [hw, Array.getElem?_setIfInBounds, if_neg hne]
  exact a.same c hc hro
theorem Ext.of_bs {h1 h1' h2 h2' : H} {w' : World} (e1 : h1'.bs = h1.bs) (e2 : h2'.bs = h2.bs) (x : Ext ρ h1 w ρ' h2 w') : Ext ρ h1' w ρ' h2' w' :=
  ⟨x.le, x.size, fun c hc hro => x.same c hc (by rw [← e1]; exact hro), fun i l hi => by rw [e1]; exact x.new i l hi, fun i r hi => by rw [e2]; exact x.ro i r (by rw [← e1]; exact hi), x.os, x.output, x.tape⟩
/-- forgetting what a round has made -/
theorem Ext.forget {h1 h2 : H} {w' : World} (x : Ext ρ h w ρ' h2 w') (hro : ∀ i r, h.bs.get i = some (.ro r) → h1.bs.get i = some (.ro r)) : Ext ρ h w ρ h1 w' :=
  ⟨Rn.le_refl ρ, x.size, x.same, fun _ _ hi => .inl hi, hro, x.os, x.output, x.tape⟩

-- THE FRAME

theorem killT_s (tm : T V) (it k : Nat) : killT tm it (k + 1) = (match Nat.blt it k, tm.get k with
  | false, some _ => killT tm it k
  | _, _ => (killT tm it k).set k .bad) := rfl
theorem killT_get (tm : T V) (it : Nat) : ∀ (k : Nat) (t : Nat), (killT tm it k).get t = if t < k ∧ (it < t ∨ tm.get t = none) then some .bad else tm.get t
  | 0, t => by
    have : ¬ (t < 0 ∧ (it < t ∨ tm.get t = none)) := by omega
    rw [if_neg this]; rfl
  | k + 1, t => by
    have ih := killT_get tm it k t
    rw [killT_s]
    generalize killT tm it k = g at ih
    by_cases q : t = k
    · subst q
      rw [if_neg (by omega)] at ih
      cases hb : Nat.blt it t with
      | true =>
        simp only
        rw [T.get_set_same, if_pos ⟨by omega, .inl (blt_nat.1 hb)⟩]
      | false =>
        have hle := blt_nat_false.1 hb
        cases hv : tm.get t with
        | none =>
          simp only
          rw [T.get_set_same, if_pos ⟨by omega, .inr (by simp)⟩]
        | some v =>
          simp only
          rw [ih, hv, if_neg]
          rintro ⟨_, z | z⟩
          · omega
          · cases z
    · have e : (t < k + 1 ∧ (it < t ∨ tm.get t = none)) ↔ (t < k ∧ (it < t ∨ tm.get t = none)) := by
        constructor
        · rintro ⟨a, b⟩; exact ⟨by omega, b⟩
        · rintro ⟨a, b⟩; exact ⟨by omega, b⟩
      simp only [e]
      split
      · exact ih
      · rw [T.get_set_ne _ _ q]; exact ih
theorem killF_tm (f : Fm) (it t : Nat) : (killF f it).tm.get t = if t < f.n ∧ (it < t ∨ f.tm.get t = none) then some .bad else f.tm.get t := killT_get f.tm it f.n t
theorem killF_sound {b : Frame} {f : Fm} {it : Nat} {tmps : Array Value} {ds : List Deferred} (hf : FR ρ b f tmps ds) : FR ρ b (killF f it) tmps ds := by
  refine ⟨⟨hf.tm.1, fun i hi => ?_⟩, fun t ht => ?_, hf.fn, hf.rd, hf.ds⟩
  · have hi' : i < f.n := hi
    unfold tmpV
    rw [killF_tm]
    by_cases z : it < i ∨ f.tm.get i = none
    · rw [if_pos ⟨hi', z⟩]; exact .bad _
    · rw [if_neg (fun q => z q.2)]; exact hf.tm.2 i hi'
  · have ht' : f.n ≤ t := ht
    rw [killF_tm, if_neg (by omega)]; exact hf.low t ht'
theorem sameTo_some {f g : Fm} : ∀ {n : Nat}, sameTo f g n = true → ∀ i, i < n → tmpV f.tm i = .bad ∨ tmpV f.tm i = tmpV g.tm i
  | 0, _, i, hi => by omega
  | n + 1, h, i, hi => by
    change (match tmpV f.tm n with
      | .bad => sameTo f g n
      | v => match eqF 6 v (tmpV g.tm n) with
        | true => sameTo f g n
        | false => false) = true at h
    have both : (tmpV f.tm n = .bad ∨ tmpV f.tm n = tmpV g.tm n) ∧ sameTo f g n = true := by
      generalize tmpV f.tm n = v at h
      split at h
      · exact ⟨.inl rfl, h⟩
      · split at h
        · rename_i e; exact ⟨.inr (eqF_eq e), h⟩
        · cases h
    by_cases q : i = n
    · subst q; exact both.1
    · exact sameTo_some both.2 i (by omega)
/-- a frame behind a round -/
theorem keepF {b : Frame} {f g : Fm} {it : Nat} {tmps tmps' : Array Value} {ds ds' : List Deferred} (hle : ρ.le ρ') (hf : FR ρ b (killF f it) tmps ds) (hg : FR ρ' b g tmps' ds') (hs : sameFm (killF f it) g it = true) (hd : f.defers = []) :
    FR ρ b (killF f it) tmps' [] ∧ ds' = [] := by
  unfold sameFm at hs
  split at hs
  · rename_i e1 e2 e3 e4
    have hn : (killF f it).n = g.n := beq_nat.1 e3
    have hgd : g.defers = [] := by
      generalize g.defers = q at e1
      cases q <;> first | rfl | cases e1
    have hds : ds' = [] := by have := hg.ds; rw [hgd] at this; cases this; rfl
    refine ⟨⟨⟨by rw [hg.tm.1, hn], fun i hi => ?_⟩, hf.low, hf.fn, hf.rd, ?_⟩, hds⟩
    · have hi' : i < f.n := hi
      have hfi := hf.tm.2 i hi
      have hgi := hg.tm.2 i (by rw [← hn]; exact hi)
      by_cases z : it < i
      · have : tmpV (killF f it).tm i = .bad := by unfold tmpV; rw [killF_tm, if_pos ⟨hi', .inl z⟩]
        rw [this]; exact .bad _
      · rcases sameTo_some hs i (by omega) with q | q
        · rw [q]; exact .bad _
        · rw [← q] at hgi
          exact hfi.back hle hgi
    · show DfsR ρ f.defers []
      rw [hd]; exact .nil
  · cases hs

-- THE ENTRIES OF A MAP

structure Ents (ρ : Rn) (l : List (V × V)) (es : List MapEntry) (since : Nat) : Prop where
  lt : ∀ e ∈ es, e.born < since
  nodup : (es.map (·.born)).Nodup
  ex : ∃ Q : V × V → MapEntry → Prop, (∀ p e, Q p e → VR ρ p.1 e.key ∧ VR ρ p.2 e.val) ∧ (∀ e ∈ es, ∃ p ∈ l, Q p e) ∧ ∀ p ∈ l, ∃ e ∈ es, ∀ q, Q q e → q = p
theorem EsR.at {es : List (V × V × Nat)} {es' : List MapEntry} (h : EsR ρ es es') : es.length = es'.length ∧ ∀ (i : Nat) (x : V × V × Nat), es[i]? = some x → ∃ e, es'[i]? = some e ∧ VR ρ x.1 e.key ∧ VR ρ x.2.1 e.val ∧ e.born = x.2.2 := by
  induction h with
  | nil => exact ⟨rfl, fun i x hx => by simp at hx⟩
  | cons k v n e l l' hk hv hn hs ih =>
    refine ⟨by simp [ih.1], fun i x hx => ?_⟩
    cases i with
    | zero => simp at hx; subst hx; exact ⟨e, by simp, hk, hv, hn⟩
    | succ i => simp at hx; obtain ⟨e', a, b⟩ := ih.2 i x hx; exact ⟨e', by simpa using a, b⟩
theorem EsR.borns {es : List (V × V × Nat)} {es' : List MapEntry} (h : EsR ρ es es') : es'.map (·.born) = es.map (·.2.2) := by
  induction h with
  | nil => rfl
  | cons k v n e l l' hk hv hn hs ih => simp [ih, hn]
theorem bornOk_some {since : Nat} : ∀ {es : List (V × V × Nat)}, bornOk since es = true → (∀ x ∈ es, x.2.2 < since) ∧ (es.map (·.2.2)).Nodup
  | [], _ => ⟨fun x hx => (List.not_mem_nil hx).elim, List.nodup_nil⟩
  | a :: l, h => by
    change (match Nat.blt a.2.2 since, l.all (fun x => bnot (Nat.beq x.2.2 a.2.2)) with
      | true, true => bornOk since l
      | _, _ => false) = true at h
    split at h
    · rename_i e1 e2
      obtain ⟨h1, h2⟩ := bornOk_some h
      refine ⟨fun x hx => ?_, ?_⟩
      · rcases List.mem_cons.1 hx with rfl | hx
        · exact blt_nat.1 e1
        · exact h1 x hx
      · rw [List.map_cons, List.nodup_cons]
        refine ⟨fun hm => ?_, h2⟩
        obtain ⟨x, hx, hxe⟩ := List.mem_map.1 hm
        have := List.all_eq_true.1 e2 x hx
        rw [beq_nat.2 hxe] at this
        cases this
    · cases h
theorem sorted_eq {l : List (Nat × V)} (h : l.Pairwise fun a b => a.1 < b.1) {n : Nat} {u v : V} (hu : (n, u) ∈ l) (hv : (n, v) ∈ l) : u = v := by
  induction l with
  | nil => cases hu
  | cons a l ih =>
    rw [List.pairwise_cons] at h
    rcases List.mem_cons.1 hu with q | q
    · rcases List.mem_cons.1 hv with r | r
      · rw [← q] at r; injection r with _ r; exact r.symm
      · have := h.1 _ r; rw [← q] at this; simp at this
    · rcases List.mem_cons.1 hv with r | r
      · have := h.1 _ q; rw [← r] at this; simp at this
      · exact ih h.2 q r
theorem nodup_get {α β : Type} {f : α → β} {l : List α} (h : (l.map f).Nodup) {i j : Nat} {x : α} (hi : l[i]? = some x) (hj : l[j]? = some x) : i = j := by
  have hi' : (l.map f)[i]? = some (f x) := by rw [List.getElem?_map, hi]; rfl
  have hj' : (l.map f)[j]? = some (f x) := by rw [List.getElem?_map, hj]; rfl
  exact (List.getElem?_inj (by
    rcases Nat.lt_or_ge i (l.map f).length with q | q
    · exact q
    · rw [List.getElem?_eq_none q] at hi'; cases hi') h).1 (hi'.trans hj'.symm)
theorem ents_sound {y : B} {since : Nat} {l : List (V × V)} {cl : T Cl} {loc : Loc} (e : entriesOf y since = some l) (hb : BR P ρ cl y loc w) : ∃ es : Array MapEntry, w.heap[loc.blk]? = some (.map es since) ∧ Ents ρ l es.toList since := by
  cases y <;> simp only [entriesOf] at e <;> first | (cases e; done) | skip
  case map es c =>
    obtain ⟨es', hw, hR⟩ := hb
    split at e
    · rename_i e1 e2
      injection e with e
      rw [lmap_eq] at e
      have hc := beq_nat.1 e1
      subst hc
      obtain ⟨b1, b2⟩ := bornOk_some e2
      obtain ⟨a1, a2⟩ := hR.at
      have hbn := hR.borns
      have hnd : (es'.toList.map (·.born)).Nodup := by rw [hbn]; exact b2
      have back : ∀ (i : Nat) (x : MapEntry), es'.toList[i]? = some x → ∃ z, es[i]? = some z := by
        intro i x hx
        have : i < es'.toList.length := by
          rcases Nat.lt_or_ge i es'.toList.length with q | q
          · exact q
          · rw [List.getElem?_eq_none q] at hx; cases hx
        exact ⟨_, List.getElem?_eq_getElem (by rw [a1]; exact this)⟩
      refine ⟨es', hw, ⟨fun x hx => ?_, hnd, fun p x => ∃ (i : Nat) (z : V × V × Nat), es[i]? = some z ∧ es'.toList[i]? = some x ∧ p = (z.1, z.2.1), ?_, ?_, ?_⟩⟩
      · obtain ⟨i, hi⟩ := List.getElem?_of_mem hx
        obtain ⟨z, hz⟩ := back i x hi
        obtain ⟨x', hx', _, _, hbz⟩ := a2 i z hz
        rw [hi] at hx'; injection hx' with hx'; subst hx'
        rw [hbz]; exact b1 z (List.mem_of_getElem? hz)
      · rintro p x ⟨i, z, hz, hx, rfl⟩
        obtain ⟨x', hx', c1, c2, _⟩ := a2 i z hz
        rw [hx] at hx'; injection hx' with hx'; subst hx'
        exact ⟨c1, c2⟩
      · intro x hx
        obtain ⟨i, hi⟩ := List.getElem?_of_mem hx
        obtain ⟨z, hz⟩ := back i x hi
        exact ⟨(z.1, z.2.1), by rw [← e]; exact List.mem_map.2 ⟨z, List.mem_of_getElem? hz, rfl⟩, i, z, hz, hi, rfl⟩
      · intro p hp
        rw [← e] at hp
        obtain ⟨z, hz, rfl⟩ := List.mem_map.1 hp
        obtain ⟨i, hi⟩ := List.getElem?_of_mem hz
        obtain ⟨x, hx, _⟩ := a2 i z hi
        refine ⟨x, List.mem_of_getElem? hx, ?_⟩
        rintro q ⟨j, z', hz', hx', rfl⟩
        have := nodup_get hnd hx hx'
        subst this
        rw [hi] at hz'; injection hz' with hz'; subst hz'
        rfl
    · cases e
  case smap kd es =>
    obtain ⟨es', hw, hS, hM⟩ := hb
    split at e
    · rename_i e1
      injection e with e
      rw [lmap_eq] at e
      have hc : es.length = since := by rw [← llen_eq]; exact beq_nat.1 e1
      subst hc
      refine ⟨es', hw, ⟨hM.lt, hM.nodup, fun p x => ∃ n v, (n, v) ∈ es ∧ p = (.int kd (Int.ofNat n), v) ∧ x.key = .int kd (Int.ofNat n) ∧ VR ρ v x.val, ?_, ?_, ?_⟩⟩
      · rintro p x ⟨n, v, _, rfl, h2, h3⟩
        exact ⟨by rw [h2]; exact .int _ _, h3⟩
      · intro x hx
        obtain ⟨n, v, c1, c2, c3⟩ := hS.here x hx
        exact ⟨(.int kd (Int.ofNat n), v), by rw [← e]; exact List.mem_map.2 ⟨(n, v), c1, rfl⟩, n, v, c1, rfl, c2, c3⟩
      · intro p hp
        rw [← e] at hp
        obtain ⟨⟨n, v⟩, hz, rfl⟩ := List.mem_map.1 hp
        obtain ⟨x, c1, c2, c3⟩ := hS.there n v hz
        refine ⟨x, c1, ?_⟩
        rintro q ⟨n', v', d1, rfl, d2, _⟩
        rw [c2] at d2
        injection d2 with _ d2
        have : n = n' := by injection d2
        subst this
        rw [sorted_eq hS.sorted hz d1]
    · cases e
end Go.Ev
/- A range over a map: its entries come in any order. -/
namespace Go.Ev
open Go
variable {P : Program} {G : Nat → Option (List V)} {R : Recs} {ρ ρ' : Rn} {h : H} {w : World}

-- THE MACHINE's STEPS

theorem choose_next {n : Nat} (hn : 0 < n) : ∃ i w1, (choose (.mapNext n)).run P w = .ok i w1 ∧ i < n ∧ w1.heap = w.heap ∧ w1.os = w.os ∧ w1.output = w.output ∧ w1.tape = w.tape := by
  simp only [choose, Sem.run]
  split
  · exact ⟨0, w, rfl, hn, rfl, rfl, rfl, rfl⟩
  · exact ⟨_, _, rfl, Nat.mod_lt _ hn, rfl, rfl, rfl, rfl⟩

theorem find_born {l : List MapEntry} (hn : (l.map (·.born)).Nodup) {e : MapEntry} (he : e ∈ l) : l.find? (fun x => x.born == e.born) = some e := by
  induction l with
  | nil => cases he
  | cons a l ih =>
    rw [List.map_cons, List.nodup_cons] at hn
    by_cases q : a.born = e.born
    · rcases List.mem_cons.1 he with rfl | he
      · simp
      · exact absurd (List.mem_map.2 ⟨e, he, q.symm⟩) hn.1
    · rcases List.mem_cons.1 he with rfl | he
      · exact absurd rfl q
      · have : (a.born == e.born) = false := by simpa using q
        rw [List.find?_cons, this]
        exact ih hn.2 he

/-- the next entry: one that was not seen; or the end, if all were -/
theorem next_run {r mb since : Nat} {seen : Array Nat} {es : Array MapEntry} {ty : TypeId} (hit : w.heap[r]? = some (.mapIter (some mb) since seen since)) (hm : w.heap[mb]? = some (.map es since)) (hlt : ∀ e ∈ es.toList, e.born < since) :
    (∃ e ∈ es.toList, e.born ∉ seen.toList ∧ ∃ w1, (Instr.next (.pointer (some ⟨r, 0, none⟩)) false ty).run P w = .ok (.tuple #[.bool true, e.key, e.val]) w1 ∧
      w1.heap = w.heap.setIfInBounds r (.mapIter (some mb) since (seen.push e.born) since) ∧ w1.os = w.os ∧ w1.output = w.output ∧ w1.tape = w.tape) ∨
    ((∀ e ∈ es.toList, e.born ∈ seen.toList) ∧ ∃ w1, (Instr.next (.pointer (some ⟨r, 0, none⟩)) false ty).run P w = .ok (.tuple #[.bool false]) w1 ∧ w1.heap = w.heap ∧ w1.os = w.os ∧ w1.output = w.output ∧ w1.tape = w.tape) := by
  have o1 := r_obj (P := P) hit (by intro _ _ _ h; cases h)
  have o2 := r_obj (P := P) hm (by intro _ _ _ h; cases h)
  have h1 : (!seen.isEmpty && !es.isEmpty && es.all (fun e : MapEntry => decide (e.born ≥ since))) = false := by
    by_cases q : es = #[]
    · subst q; simp
    · obtain ⟨e, he⟩ : ∃ e, e ∈ es.toList := by
        cases hl : es.toList with
        | nil => exact absurd (by apply Array.toList_inj.1; exact hl) q
        | cons a l => exact ⟨a, by simp⟩
      have : es.all (fun e : MapEntry => decide (e.born ≥ since)) = false := by
        rw [← Array.all_toList]
        cases ha : es.toList.all (fun e : MapEntry => decide (e.born ≥ since)) with
        | false => rfl
        | true =>
          have := List.all_eq_true.1 ha e he
          have h2 := hlt e he
          simp only [ge_iff_le, decide_eq_true_eq] at this
          omega
      rw [this, Bool.and_false]
  let left := es.filter fun e => !seen.contains e.born
  have hin : ∀ e, e ∈ left.toList ↔ e ∈ es.toList ∧ e.born ∉ seen.toList := by
    intro e
    simp [left]
  have hold : left.filter (fun e : MapEntry => decide (e.born < since)) = left := by
    apply Array.toList_inj.1
    rw [Array.toList_filter, List.filter_eq_self]
    intro e he
    exact decide_eq_true (hlt e ((hin e).1 he).1)
  have hnew : left.filter (fun e : MapEntry => decide (e.born ≥ since)) = #[] := by
    apply Array.toList_inj.1
    rw [Array.toList_filter, List.filter_eq_nil_iff]
    intro e he
    have := hlt e ((hin e).1 he).1
    simp; omega
  by_cases hl : left = #[]
  · refine .inr ⟨fun e he => ?_, ?_⟩
    · refine Classical.byContradiction fun q => ?_
      have := (hin e).2 ⟨he, q⟩
      rw [hl] at this
      simp at this
    · obtain ⟨i, w1, c1, c2, c3⟩ := choose_next (P := P) (w := w) (n := 1) (by omega)
      refine ⟨w1, ?_, c3⟩
      have hi : i = 0 := by omega
      subst hi
      simp only [Instr.next, Sem.run_bind, o1, Result.andThen_ok, o2, h1, Bool.false_eq_true, if_false]
      change Result.andThen ((choose (.mapNext ((if (left.filter (fun e : MapEntry => decide (e.born < since))).isEmpty = true then #[none] else #[]) ++ (left.filter (fun e : MapEntry => decide (e.born < since)) ++ left.filter (fun e : MapEntry => decide (e.born ≥ since))).map some).size)).run P w) _ = _
      rw [hold, hnew, hl]
      have hc0 : ((if (#[] : Array MapEntry).isEmpty = true then #[none] else #[]) ++ (#[] ++ #[] : Array MapEntry).map some) = #[none] := by simp
      rw [hc0]
      change Result.andThen ((choose (.mapNext 1)).run P w) _ = _
      rw [c1]
      simp only [Result.andThen_ok]
      rfl
  · have hsz : 0 < left.size := by
      rcases Nat.eq_zero_or_pos left.size with q | q
      · exact absurd (Array.eq_empty_of_size_eq_zero q) hl
      · exact q
    obtain ⟨i, w1, c1, c2, c3, c4⟩ := choose_next (P := P) (w := w) (n := left.size) hsz
    have he : left[i] ∈ left.toList := by simp
    obtain ⟨e1, e2⟩ := (hin _).1 he
    refine .inl ⟨left[i], e1, e2, { w1 with heap := w1.heap.setIfInBounds r (.mapIter (some mb) since (seen.push left[i].born) since) }, ?_, by rw [c3], c4⟩
    simp only [Instr.next, Sem.run_bind, o1, Result.andThen_ok, o2, h1, Bool.false_eq_true, if_false]
    change Result.andThen ((choose (.mapNext ((if (left.filter (fun e : MapEntry => decide (e.born < since))).isEmpty = true then #[none] else #[]) ++ (left.filter (fun e : MapEntry => decide (e.born < since)) ++ left.filter (fun e : MapEntry => decide (e.born ≥ since))).map some).size)).run P w) _ = _
    have hc : ((if (left.filter (fun e : MapEntry => decide (e.born < since))).isEmpty = true then #[none] else #[]) ++ (left.filter (fun e : MapEntry => decide (e.born < since)) ++ left.filter (fun e : MapEntry => decide (e.born ≥ since))).map some) = left.map some := by
      rw [hold, hnew]
      have : left.isEmpty = false := by simpa using hl
      rw [this]; simp
    rw [hc, Array.size_map, c1]
    have hi : (left.map some)[i]? = some (some left[i]) := by simp
    simp only [Result.andThen_ok, hi, Sem.run_bind]
    have o3 : w1.heap[r]? = some (.mapIter (some mb) since seen since) := by rw [c3]; exact hit
    rw [r_set (P := P) o3 (by intro _ _ _ h; cases h)]
    simp only [Result.andThen_ok, Sem.run_pure]
theorem entry_run {r mb since stepped : Nat} {seen : Array Nat} {es : Array MapEntry} {e : MapEntry} (hit : w.heap[r]? = some (.mapIter (some mb) since (seen.push e.born) stepped)) (hm : w.heap[mb]? = some (.map es stepped)) (hn : (es.toList.map (·.born)).Nodup) (he : e ∈ es.toList) :
    (Instr.entry (.pointer (some ⟨r, 0, none⟩))).run P w = .ok (.tuple #[e.key, e.val]) w := by
  have o1 := r_obj (P := P) hit (by intro _ _ _ h; cases h)
  have o2 := r_obj (P := P) hm (by intro _ _ _ h; cases h)
  have hf : es.find? (fun x => x.born == e.born) = some e := by rw [← Array.find?_toList]; exact find_born hn he
  simp only [Instr.entry, Sem.run_bind, o1, Result.andThen_ok, Array.back?_push, o2, bne_self_eq_false, Bool.false_eq_true, if_false, hf, Sem.run_pure]

theorem val_step {b : Frame} {ops : Array Oper} {i : Nat} {o : Oper} {tmps : Array Value} {ds : List Deferred} {rest : List Nat} {k : List Item} {cs : List Frame} {v : Value} {w1 : World} (ho : ops[i]? = some o) (hg : o.guard = none) (hd : isDefer o.op = false)
    (hrun : (execOp (evalT tmps) o).run P w = .ok (.value v) w1) : Steps P (lone (frm b tmps ds (.inRegion ops (i :: rest) :: k)) cs w) (lone (frm b (putT tmps o.dst v) ds (.inRegion ops rest :: k)) cs w1) := by
  have hw' : Region.wanted o (yielded ops tmps) = true := by unfold Region.wanted; rw [hg]
  have d : Calling P (execOp (evalT tmps) o) w v w1 := ⟨.value v, w1, hrun, rfl, rfl⟩
  have := d.steps (fr0 := frm b tmps ds (.inRegion ops (i :: rest) :: k)) (cs := cs) (fr := frm b tmps ds (.inRegion ops (i :: rest) :: k)) (w0 := w) (congrArg GStep.bare (st_op ho hw' (.inl hd))) noWrap_region
  rw [frm_finish, ho] at this
  exact this

-- WHAT A RANGE OVER A MAP LOOKS LIKE

theorem stepParts_some {l : List Oper} {it nx mo : Nat} (e : stepParts l = some (it, nx, mo)) : ∃ a b, l = [a, b] ∧ a.op = .next (.tmp it) false ∧ a.dst = some nx ∧ a.guard = none ∧ b.op = .extract (.tmp nx) 0 ∧ b.dst = some mo ∧ b.guard = none := by
  unfold stepParts at e
  split at e
  · rename_i a b
    split at e
    · rename_i it' nx' ha hb
      split at e
      · rename_i nx2 mo2 h1 h2 h3 h4
        split at e
        · rename_i hq
          injection e with e
          injection e with e1 e2
          injection e2 with e2 e3
          have := beq_nat.1 hq
          subst e1; subst e2; subst e3; subst this
          exact ⟨a, b, rfl, ha, h1, h3, hb, h2, h4⟩
        · cases e
      · cases e
    · cases e
  · cases e
theorem asgParts_some {it pair : Nat} {l : List Oper} (e : asgParts it l = some pair) : ∃ x rest, l = x :: rest ∧ x.op = .entry (.tmp it) ∧ x.dst = some pair ∧ x.guard = none := by
  unfold asgParts at e
  split at e
  · rename_i a rest
    split at e
    · rename_i it' ha
      split at e
      · rename_i p h1 h2
        split at e
        · rename_i hq
          injection e with e
          have := beq_nat.1 hq
          subst e; subst this
          exact ⟨a, rest, rfl, ha, h1, h2⟩
        · cases e
      · cases e
    · cases e
  · cases e
def bodyOf (r1 r2 : Nat) (sops : Array Oper) (id : Nat) (ml : ML) : Code := .seq (.region r1 sops false) (.seq (.cond (.tmp ml.mo) .skip (.exit id)) (.block ml.nb (.seq (.region r2 ml.aops false) ml.code)))
theorem loopParts_some {id : Nat} {c : Code} {ml : ML} (e : loopParts id c = some ml) : ∃ r1 r2 sops a b x rest, c = .loop (bodyOf r1 r2 sops id ml) ∧
    sops.toList = [a, b] ∧ a.op = .next (.tmp ml.it) false ∧ a.dst = some ml.nx ∧ a.guard = none ∧ b.op = .extract (.tmp ml.nx) 0 ∧ b.dst = some ml.mo ∧ b.guard = none ∧
    ml.aops.toList = x :: rest ∧ x.op = .entry (.tmp ml.it) ∧ x.dst = some ml.pair ∧ x.guard = none := by
  unfold loopParts at e
  split at e
  · rename_i r1 sops mo o nb r2 aops code
    split at e
    · rename_i it nx mo' hs
      split at e
      · rename_i pair h1 h2 h3
        injection e with e
        subst e
        have q1 := beq_nat.1 h1
        have q2 := beq_nat.1 h2
        subst q1; subst q2
        obtain ⟨a, b, s1, s2, s3, s4, s5, s6, s7⟩ := stepParts_some hs
        obtain ⟨x, rest, t1, t2, t3, t4⟩ := asgParts_some h3
        exact ⟨r1, r2, sops, a, b, x, rest, rfl, s1, s2, s3, s4, s5, s6, s7, t1, t2, t3, t4⟩
      · cases e
    · cases e
  · cases e

theorem TmR.setF {b : Frame} {f : Fm} {tmps : Array Value} {ds : List Deferred} {d : Nat} {v : V} {v' : Value} (hf : FR ρ b f tmps ds) (hd : d < f.n) (hv : VR ρ v v') : FR ρ b { f with tm := f.tm.set d v } (tmps.setIfInBounds d v') ds :=
  ⟨hf.tm.set hd hv, low_set hf.low hd, hf.fn, hf.rd, hf.ds⟩

/-- A ROUND, with an entry -/
theorem round_sound (ho : SOps P G R) (hc0 : SCode P G R) {ml : ML} {r2 : Nat} {x : Oper} {rest : List Oper} (hx : ml.aops.toList = x :: rest) (hop : x.op = .entry (.tmp ml.it)) (hdst : x.dst = some ml.pair) (hgd : x.guard = none)
    {f : Fm} {p : V × V} {x1 i1 : Nat} {g : Fm} {h' : H} (e : roundM R ml f p h = some ((x1, i1, g), h')) (hr : HR P ρ h w) (hc : Ctx P G ρ h) {b : Frame} {tmps : Array Value} {key val : Value}
    (hf : FR ρ b { f with tm := (f.tm.set ml.nx (.tup [.bool true, p.1, p.2])).set ml.mo (.bool true) } tmps []) (hpn : ml.pair < f.n) (hk : VR ρ p.1 key) (hv : VR ρ p.2 val)
    (hent : (Instr.entry (evalT tmps (.tmp ml.it))).run P w = .ok (.tuple #[key, val]) w) :
    Out P ρ h w b g h' fun tmps' ds' w' => ∀ b', Alike b b' → ∀ k cs, Calm b'.kind cs → To P b' (lone (frm b' tmps [] (.code (.block ml.nb (.seq (.region r2 ml.aops false) ml.code)) :: k)) cs w) x1 i1 tmps' ds' w' k cs := by
  unfold roundM at e
  obtain ⟨f2, h2, e1, e2⟩ := bind_some e
  obtain ⟨⟨x3, i3, f3⟩, h3, e3, e4⟩ := bind_some e2
  have hpair : VR ρ (.tup [p.1, p.2]) (.tuple #[key, val]) := .tup _ [key, val] (.cons _ _ _ _ hk (.cons _ _ _ _ hv .nil))
  have hf1 := TmR.setF hf hpn hpair
  have h0 : ml.aops[0]? = some x := by rw [← Array.getElem?_toList, hx]; rfl
  have hsz : 0 < ml.aops.size := by rw [← Array.length_toList, hx]; simp
  obtain ⟨ρ2, tmps2, ds2, w2, y2, r2', fr2, s2⟩ := ho ml.aops 1 _ h f2 h2 e1 ρ w b _ [] hr hc hf1
  obtain ⟨ρ3, tmps3, ds3, w3, y3, r3, fr3, s3⟩ := hc0 _ _ _ _ _ _ _ e3 ρ2 w2 b tmps2 ds2 r2' (hc.ext y2) fr2
  have hrun : (execOp (evalT tmps) x).run P w = .ok (.value (.tuple #[key, val])) w := by
    simp only [execOp, hop, Sem.run_bind, hent, Result.andThen_ok, Sem.run_pure]
  -- to the body
  have pre : ∀ b', Alike b b' → ∀ k cs, Calm b'.kind cs → Steps P (lone (frm b' tmps [] (.code (.block ml.nb (.seq (.region r2 ml.aops false) ml.code)) :: k)) cs w) (lone (frm b' tmps2 ds2 (.code ml.code :: .inBlock ml.nb :: k)) cs w2) := by
    intro b' hal k cs hcs
    refine .head st_block (.head st_seq (.head st_region ?_))
    have hrg : List.range ml.aops.size = 0 :: List.range' 1 (ml.aops.size - 1) := by
      rw [List.range_eq_range']
      have : ml.aops.size = (ml.aops.size - 1) + 1 := by omega
      rw [this]; rfl
    rw [hrg]
    have q1 := val_step (b := b') (ds := []) (rest := List.range' 1 (ml.aops.size - 1)) (k := .code ml.code :: .inBlock ml.nb :: k) (cs := cs) h0 hgd (by rw [hop]; rfl) hrun
    rw [hdst] at q1
    exact q1.trans (s2 b' hal (.code ml.code :: .inBlock ml.nb :: k) cs hcs)
  match x3, e4, s3 with
  | 0, e4, s3 =>
    obtain ⟨e5, rfl⟩ := pure_some e4
    cases e5
    exact ⟨ρ3, tmps3, ds3, w3, y2.trans y3, r3, fr3, fun b' hal k cs hcs => (pre b' hal k cs hcs).trans ((s3 b' hal (.inBlock ml.nb :: k) cs hcs : Steps _ _ _).trans (.one st_inBlock))⟩
  | 1, e4, s3 =>
    simp only at e4
    cases hq : Nat.beq i3 ml.nb with
    | true =>
      rw [hq] at e4
      have hi : i3 = ml.nb := beq_nat.1 hq
      obtain ⟨e5, rfl⟩ := pure_some e4
      cases e5
      refine ⟨ρ3, tmps3, ds3, w3, y2.trans y3, r3, fr3, fun b' hal k cs hcs => ?_⟩
      obtain ⟨k', a, c⟩ := s3 b' hal (.inBlock ml.nb :: k) cs hcs
      have hk : exitTo i3 k' = some k := by rw [a, hi]; simp [exitTo]
      exact (pre b' hal k cs hcs).trans (c.trans (.one (st_exit hk)))
    | false =>
      rw [hq] at e4
      have hi : i3 ≠ ml.nb := beq_nat_false.1 hq
      obtain ⟨e5, rfl⟩ := pure_some e4
      cases e5
      refine ⟨ρ3, tmps3, ds3, w3, y2.trans y3, r3, fr3, fun b' hal k cs hcs => ?_⟩
      obtain ⟨k', a, c⟩ := s3 b' hal (.inBlock ml.nb :: k) cs hcs
      have hk : exitTo i1 (.inBlock ml.nb :: k) = exitTo i1 k := by
        have : (ml.nb == i1) = false := by simp; exact fun q => hi q.symm
        simp [exitTo, this]
      exact ⟨k', a.trans hk, (pre b' hal k cs hcs).trans c⟩
  | n + 2, e4, s3 =>
    obtain ⟨e5, rfl⟩ := pure_some e4
    cases e5
    refine ⟨ρ3, tmps3, ds3, w3, y2.trans y3, r3, fr3, fun b' hal k cs hcs => ?_⟩
    obtain ⟨k', c⟩ := s3 b' hal (.inBlock ml.nb :: k) cs hcs
    exact ⟨k', (pre b' hal k cs hcs).trans c⟩

theorem filter_lt {α : Type} {p q : α → Bool} : ∀ {l : List α}, (∀ x ∈ l, q x = true → p x = true) → ∀ {a : α}, a ∈ l → p a = true → q a = false → (l.filter q).length < (l.filter p).length
  | [], _, a, ha, _, _ => by cases ha
  | y :: l, hi, a, ha, hp, hq => by
    have le : ∀ {l : List α}, (∀ x ∈ l, q x = true → p x = true) → (l.filter q).length ≤ (l.filter p).length := by
      intro l
      induction l with
      | nil => intro _; exact Nat.le_refl _
      | cons z l ih =>
        intro h
        have ih := ih fun x hx => h x (List.mem_cons_of_mem _ hx)
        have hz := h z (List.mem_cons_self ..)
        cases c1 : q z with
        | false =>
          rw [List.filter_cons_of_neg (by simp [c1])]
          cases c2 : p z with
          | false => rw [List.filter_cons_of_neg (by simp [c2])]; exact ih
          | true => rw [List.filter_cons_of_pos (by simp [c2])]; simp; omega
        | true =>
          rw [List.filter_cons_of_pos (by simp [c1]), List.filter_cons_of_pos (by simp [hz c1])]
          simp; exact ih
    have hi' : ∀ x ∈ l, q x = true → p x = true := fun x hx => hi x (List.mem_cons_of_mem _ hx)
    rcases List.mem_cons.1 ha with rfl | ha
    · rw [List.filter_cons_of_neg (by simp [hq]), List.filter_cons_of_pos (by simp [hp])]
      have := le hi'
      simp; omega
    · have ih := filter_lt hi' ha hp hq
      have hz := hi y (List.mem_cons_self ..)
      cases c1 : q y with
      | false =>
        rw [List.filter_cons_of_neg (by simp [c1])]
        cases c2 : p y with
        | false => rw [List.filter_cons_of_neg (by simp [c2])]; exact ih
        | true => rw [List.filter_cons_of_pos (by simp [c2])]; simp; omega
      | true =>
        rw [List.filter_cons_of_pos (by simp [c1]), List.filter_cons_of_pos (by simp [hz c1])]
        simp; exact ih

theorem oneE_some {n gs wr : Nat} {bs : T B} {cl : T Cl} {ml : ML} {f : Fm} {p : V × V} {q : Option ((Nat × Nat × Fm) × H)} (e : oneE R ml f (.mk n gs wr bs cl) p = some q) : ∃ x i g n' g' wr' bs' cl', roundM R ml f p (.mk n n 0 bs cl) = some ((x, i, g), .mk n' g' wr' bs' cl') ∧
    ((x = 0 ∧ Nat.beq (lowBits n wr') 0 = true ∧ sameFm f g ml.it = true ∧ q = none) ∨ ∃ y, x = y + 1 ∧ q = some ((y + 1, i, g), .mk n' gs (Nat.lor wr (lowBits gs wr')) bs' cl')) := by
  unfold oneE at e
  simp only at e
  generalize hs : roundM R ml f p (.mk n n 0 bs cl) = s at e
  match s, hs, e with
  | some ((0, i, g), .mk n' g' wr' bs' cl'), hs, e =>
    simp only at e
    split at e
    · rename_i h1 h2
      injection e with e
      exact ⟨0, i, g, n', g', wr', bs', cl', rfl, .inl ⟨rfl, h1, h2, e.symm⟩⟩
    · cases e
  | some ((y + 1, i, g), .mk n' g' wr' bs' cl'), hs, e =>
    simp only at e
    injection e with e
    exact ⟨y + 1, i, g, n', g', wr', bs', cl', rfl, .inr ⟨y, rfl, e.symm⟩⟩

/-- what a range over a map comes to, by what its rounds come to -/
noncomputable def finM (bid : Nat) (ml : ML) (f : Fm) (h0 : H) (o : Option ((Nat × Nat × Fm) × H)) : Option ((Nat × Nat × Fm) × H) := match o with
  | none => some ((0, 0, { f with tm := (f.tm.set ml.nx (.tup [.bool false])).set ml.mo (.bool false) }), h0)
  | some (r, h') => blockF bid r h'

theorem evalT_same {tmps : Array Value} {d : Nat} {v : Value} (hd : d < tmps.size) : evalT (tmps.setIfInBounds d v) (.tmp d) = v := by
  show (tmps.setIfInBounds d v).getD d undef = v
  simp [Array.getD, hd]
theorem evalT_other {tmps : Array Value} {d i : Nat} {v : Value} (hd : i ≠ d) : evalT (tmps.setIfInBounds d v) (.tmp i) = evalT tmps (.tmp i) := by
  show (tmps.setIfInBounds d v).getD i undef = tmps.getD i undef
  have q' : d ≠ i := fun e => hd e.symm
  by_cases hi : i < tmps.size
  · simp [Array.getD, hi, q']
  · simp [Array.getD, hi]
/-- up to a round's test -/
theorem head_steps {ml : ML} {bid r1 r2 : Nat} {sops : Array Oper} {a c : Oper} (hs : sops.toList = [a, c]) (ha : a.op = .next (.tmp ml.it) false) (ha2 : a.dst = some ml.nx) (ha3 : a.guard = none)
    (hc : c.op = .extract (.tmp ml.nx) 0) (hc2 : c.dst = some ml.mo) (hc3 : c.guard = none) {tmps : Array Value} (n1 : ml.nx < tmps.size) (n2 : ml.mo < tmps.size) {w1 : World} {vs : Array Value} {t : Bool} (hv : vs[0]? = some (.bool t))
    (hrun : (Instr.next (evalT tmps (.tmp ml.it)) false a.type).run P w = .ok (.tuple vs) w1) {b : Frame} {K : List Item} {cs : List Frame} :
    Steps P (lone (frm b tmps [] (.code (bodyOf r1 r2 sops bid ml) :: K)) cs w)
      (lone (frm b ((tmps.setIfInBounds ml.nx (.tuple vs)).setIfInBounds ml.mo (.bool t)) [] (.code (if t then .skip else .exit bid) :: .code (.block ml.nb (.seq (.region r2 ml.aops false) ml.code)) :: K)) cs w1) := by
  have h0 : sops[0]? = some a := by rw [← Array.getElem?_toList, hs]; rfl
  have h1 : sops[1]? = some c := by rw [← Array.getElem?_toList, hs]; rfl
  have hsz : sops.size = 2 := by rw [← Array.length_toList, hs]; rfl
  have r0 : (execOp (evalT tmps) a).run P w = .ok (.value (.tuple vs)) w1 := by
    simp only [execOp, ha, Sem.run_bind, hrun, Result.andThen_ok, Sem.run_pure]
  have r1' : (execOp (evalT (tmps.setIfInBounds ml.nx (.tuple vs))) c).run P w1 = .ok (.value (.bool t)) w1 := by
    simp only [execOp, hc, Sem.run_bind, evalT_same n1, Instr.extract, hv, Result.andThen_ok, Sem.run_pure]
  refine .head st_seq (.head st_region ?_)
  have hrg : List.range sops.size = [0, 1] := by rw [hsz]; rfl
  rw [hrg]
  have q1 := val_step (b := b) (ds := []) (rest := [1]) (k := .code (.seq (.cond (.tmp ml.mo) .skip (.exit bid)) (.block ml.nb (.seq (.region r2 ml.aops false) ml.code))) :: K) (cs := cs) h0 ha3 (by rw [ha]; rfl) r0
  rw [ha2] at q1
  have q2 := val_step (b := b) (ds := []) (rest := []) (k := .code (.seq (.cond (.tmp ml.mo) .skip (.exit bid)) (.block ml.nb (.seq (.region r2 ml.aops false) ml.code))) :: K) (cs := cs) h1 hc3 (by rw [hc]; rfl) r1'
  rw [hc2] at q2
  refine (q1.trans q2).trans (.head st_end (.head st_seq (.one (st_cond ?_))))
  exact evalT_same (by simp [n2])

/-- THE ROUNDS -/
theorem rounds_sound (hR : GoodR R) (ho : SOps P G R) (hc0 : SCode P G R) {bid : Nat} {ml : ML} {r1 r2 : Nat} {sops : Array Oper} {a c x : Oper} {rest : List Oper} (hs : sops.toList = [a, c]) (ha : a.op = .next (.tmp ml.it) false) (ha2 : a.dst = some ml.nx) (ha3 : a.guard = none)
    (hc : c.op = .extract (.tmp ml.nx) 0) (hc2 : c.dst = some ml.mo) (hc3 : c.guard = none) (hx : ml.aops.toList = x :: rest) (hx1_ : x.op = .entry (.tmp ml.it)) (hx2 : x.dst = some ml.pair) (hx3 : x.guard = none)
    {f : Fm} (hfd : f.defers = []) (i1 : ml.it < ml.nx) (i2 : ml.it < ml.mo) (n1 : ml.nx < f.n) (n2 : ml.mo < f.n) (n3 : ml.pair < f.n)
    {m bi since : Nat} {y : B} {l : List (V × V)} {bloc mloc : Loc} (hbi : h.bs.get bi = some (.mit m since)) (hm : h.bs.get m = some y) (hyo : y.isObj = true) (hρb : ρ bi = some bloc) (hρm : ρ m = some mloc) (hsh : bloc.sh = 0)
    (hr : HR P ρ h w) (hctx : Ctx P G ρ h) (hit0 : tmpV f.tm ml.it = .ptr bi 0) {es : Array MapEntry} (hE : Ents ρ l es.toList since)
    {Q : V × V → MapEntry → Prop} (q1 : ∀ p e, Q p e → VR ρ p.1 e.key ∧ VR ρ p.2 e.val) (q2 : ∀ e ∈ es.toList, ∃ p ∈ l, Q p e) (q3 : ∀ p ∈ l, ∃ e ∈ es.toList, ∀ q, Q q e → q = p)
    {o : Option ((Nat × Nat × Fm) × H)} (hall : eachE R ml (killF f ml.it) (lockH h m bi) l = some o) {xx id : Nat} {f' : Fm} {h' : H} (hfin : finM bid ml (killF f ml.it) (lockH h m bi) o = some ((xx, id, f'), h')) {b : Frame} :
    ∀ (k : Nat) (seen : Array Nat) (wj : World) (tmps : Array Value), (es.toList.filter fun e => !seen.toList.contains e.born).length ≤ k → HR P ρ (lockH h m bi) wj → Ext ρ h w ρ (lockH h m bi) wj → FR ρ b (killF f ml.it) tmps [] →
      wj.heap[bloc.blk]? = some (.mapIter (some mloc.blk) since seen since) → wj.heap[mloc.blk]? = some (.map es since) → (∀ e ∈ es.toList, e.born ∈ seen.toList → ∃ p, Q p e ∧ oneE R ml (killF f ml.it) (lockH h m bi) p = some none) →
      Out P ρ h w b f' h' fun tmps' ds' w' => ∀ b', Alike b b' → ∀ k cs, Calm b'.kind cs → To P b' (lone (frm b' tmps [] (.code (bodyOf r1 r2 sops bid ml) :: .inLoop (bodyOf r1 r2 sops bid ml) :: .inBlock bid :: k)) cs wj) xx id tmps' ds' w' k cs := by
  intro k
  -- what is so of the locked heap
  have hlk := lock_some (h := h) (m := m) (b := bi)
  have hrole : ∀ i r, h.bs.get i = some (.ro r) → (lockH h m bi).bs.get i = some (.ro r) := by
    intro i r hi
    have e1 : i ≠ bi := by rintro rfl; rw [hbi] at hi; cases hi
    have e2 : i ≠ m := by rintro rfl; rw [hm] at hi; injection hi with hi; subst hi; cases hyo
    obtain ⟨n, gs, wr, bs, cl⟩ := h
    show ((bs.set m (.ro [])).set bi (.ro [])).get i = some (.ro r)
    rw [T.get_set_ne _ _ e1, T.get_set_ne _ _ e2]; exact hi
  have hctx0 : Ctx P G ρ (lockH h m bi) := ⟨hctx.gl, fun g r e => hrole _ _ (hctx.ro g r e)⟩
  have aloneb : ∀ i l, ρ i = some l → l.blk = bloc.blk → i = bi := fun i l => alone_at hr hbi rfl hρb i l
  have alonem : ∀ i l, ρ i = some l → l.blk = mloc.blk → i = m := fun i l => alone_at hr hm hyo hρm i l
  have hbin : bloc.blk < w.heap.size := hr.inb _ _ hρb
  have hmin : mloc.blk < w.heap.size := hr.inb _ _ hρm
  generalize hh0 : lockH h m bi = h0 at *
  have hnit : ml.it < f.n := by omega
  have hit1 : tmpV (killF f ml.it).tm ml.it = .ptr bi 0 := by
    have hne : f.tm.get ml.it ≠ none := by
      intro q
      unfold tmpV at hit0
      rw [q] at hit0; cases hit0
    unfold tmpV
    rw [killF_tm, if_neg (by
      rintro ⟨_, q | q⟩
      · omega
      · exact hne q)]
    exact hit0
  obtain ⟨n, gs, wr, bs, cl⟩ := h0
  induction k using Nat.strongRecOn with
  | _ k ih =>
  intro seen wj tmps hk hrj hxj hfj hitj hmj hseen
  have hsz : tmps.size = f.n := hfj.tm.1
  have hptr : evalT tmps (.tmp ml.it) = .pointer (some ⟨bloc.blk, 0, none⟩) := by
    have hv := hfj.tm.2 ml.it hnit
    rw [hit1] at hv
    show tmps.getD ml.it undef = _
    generalize tmps.getD ml.it undef = z at hv
    cases hv with
    | ptr _ _ loc hl =>
      rw [hρb] at hl; injection hl with hl; subst hl
      rw [hsh]
  rcases next_run (P := P) (w := wj) (ty := a.type) hitj hmj hE.lt with ⟨e, he, hne, w1, hrun, hw1, g1, g2, g3⟩ | ⟨hover, w1, hrun, hw1, g1, g2, g3⟩
  · -- one that was not seen
    obtain ⟨p, hp, hQ⟩ := q2 e he
    obtain ⟨hkv, hvv⟩ := q1 p e hQ
    obtain ⟨q, hq, hqo⟩ := eachE_all hall p hp
    obtain ⟨x1, j1, g, n', g', wr', bs', cl', hround, hcase⟩ := oneE_some hq
    have hr1 : HR P ρ (.mk n gs wr bs cl) w1 := hrj.iter hlk.2 aloneb hw1
    have hx1 : Ext ρ h w ρ (.mk n gs wr bs cl) w1 := hxj.iter hbi (fun _ => by simp) hρb rfl hw1 g1 g2 g3
    have hr1' : HR P ρ (.mk n n 0 bs cl) w1 := (hr1.same (h' := .mk n n 0 bs cl) (w' := w1) (Nat.le_refl _) (Nat.le_refl _) rfl rfl rfl rfl rfl rfl).2
    have hctx' : Ctx P G ρ (.mk n n 0 bs cl) := ⟨hctx0.gl, hctx0.ro⟩
    have hbj : bloc.blk < wj.heap.size := Nat.lt_of_lt_of_le hbin hxj.size
    have hne2 : mloc.blk ≠ bloc.blk := by
      intro z
      rw [z, hitj] at hmj; cases hmj
    have hit1' : w1.heap[bloc.blk]? = some (.mapIter (some mloc.blk) since (seen.push e.born) since) := by rw [hw1, Array.getElem?_setIfInBounds, if_pos rfl, if_pos hbj]
    have hm1 : w1.heap[mloc.blk]? = some (.map es since) := by rw [hw1, Array.getElem?_setIfInBounds, if_neg (fun z => hne2 z.symm)]; exact hmj
    let vs : Array Value := #[.bool true, e.key, e.val]
    have hfa := TmR.setF hfj n1 (v := .tup [.bool true, p.1, p.2]) (v' := .tuple vs) (.tup _ [.bool true, e.key, e.val] (.cons _ _ _ _ (.bool _) (.cons _ _ _ _ hkv (.cons _ _ _ _ hvv .nil))))
    have hfb := TmR.setF hfa (d := ml.mo) (v := .bool true) (v' := .bool true) n2 (.bool true)
    have hent : (Instr.entry (evalT ((tmps.setIfInBounds ml.nx (.tuple vs)).setIfInBounds ml.mo (.bool true)) (.tmp ml.it))).run P w1 = .ok (.tuple #[e.key, e.val]) w1 := by
      rw [evalT_other (by omega), evalT_other (by omega), hptr]
      exact entry_run hit1' hm1 hE.nodup he
    obtain ⟨ρ3, tmps3, ds3, w3, y3, r3, fr3, s3⟩ := round_sound (r2 := r2) ho hc0 hx hx1_ hx2 hx3 hround hr1' hctx' hfb n3 hkv hvv hent
    have kept := (Good.roundM hR ml (killF f ml.it) p).ok _ _ _ hround (Nat.le_refl n)
    have pre : ∀ (b' : Frame) K cs, Steps P (lone (frm b' tmps [] (.code (bodyOf r1 r2 sops bid ml) :: K)) cs wj)
        (lone (frm b' ((tmps.setIfInBounds ml.nx (.tuple vs)).setIfInBounds ml.mo (.bool true)) [] (.code (.block ml.nb (.seq (.region r2 ml.aops false) ml.code)) :: K)) cs w1) := by
      intro b' K cs
      exact (head_steps (P := P) (w := wj) (w1 := w1) (t := true) (vs := vs) (bid := bid) (r1 := r1) (r2 := r2) hs ha ha2 ha3 hc hc2 hc3 (by omega) (by omega) rfl (by rw [hptr]; exact hrun)).trans (.one st_skip)
    rcases hcase with ⟨rfl, hz, hsame, rfl⟩ | ⟨y1, rfl, rfl⟩
    · -- it goes on
      have hk3 := hr1'.keep r3 y3 (fun i hi => kept.old i hi (low_zero hz hi)) (fun k _ hk => kept.oldc k hk (low_zero hz hk))
      have hk3' : HR P ρ (.mk n gs wr bs cl) w3 := (hk3.same (h' := .mk n gs wr bs cl) (w' := w3) (Nat.le_refl _) hr1.gs rfl rfl rfl rfl rfl rfl).2
      obtain ⟨hfk, rfl⟩ := keepF y3.le hfj fr3 hsame hfd
      have hx3' : Ext ρ h w ρ (.mk n gs wr bs cl) w3 := (hx1.trans (Ext.of_bs (h1 := .mk n n 0 bs cl) (h2 := .mk n' g' wr' bs' cl') (h1' := .mk n gs wr bs cl) (h2' := .mk n' g' wr' bs' cl') rfl rfl y3)).forget hrole
      have hb1 : bloc.blk < w1.heap.size := by rw [hw1]; simpa using hbj
      have hm1' : mloc.blk < w1.heap.size := Nat.lt_of_lt_of_le hmin hx1.size
      have hit3 := (y3.same bloc.blk hb1 (fun i l hi hl => ⟨[], by rw [aloneb i l hi hl]; exact hlk.2⟩)).trans hit1'
      have hm3 := (y3.same mloc.blk hm1' (fun i l hi hl => ⟨[], by rw [alonem i l hi hl]; exact hlk.1⟩)).trans hm1
      have hlt : (es.toList.filter fun e' => !(seen.push e.born).toList.contains e'.born).length < k := by
        refine Nat.lt_of_lt_of_le (filter_lt (p := fun e' => !seen.toList.contains e'.born) (fun z _ hz' => ?_) he ?_ ?_) hk
        · simp only [Array.toList_push, Bool.not_eq_true', List.contains_eq_mem, decide_eq_false_iff_not, List.mem_append, not_or] at hz' ⊢
          exact hz'.1
        · simp only [Bool.not_eq_true', List.contains_eq_mem, decide_eq_false_iff_not]; exact hne
        · simp
      have hseen' : ∀ e' ∈ es.toList, e'.born ∈ (seen.push e.born).toList → ∃ p, Q p e' ∧ oneE R ml (killF f ml.it) (.mk n gs wr bs cl) p = some none := by
        intro e' he' hb'
        rw [Array.toList_push, List.mem_append] at hb'
        rcases hb' with z | z
        · exact hseen e' he' z
        · have z' : e'.born = e.born := by simpa using z
          obtain ⟨i, hi⟩ := List.getElem?_of_mem he
          obtain ⟨j, hj⟩ := List.getElem?_of_mem he'
          have e1 : (es.toList.map (·.born))[i]? = some e.born := by rw [List.getElem?_map, hi]; rfl
          have e2 : (es.toList.map (·.born))[j]? = some e.born := by rw [List.getElem?_map, hj, ← z']; rfl
          have hij : i = j := (List.getElem?_inj (by
            rcases Nat.lt_or_ge i (es.toList.map (·.born)).length with q | q
            · exact q
            · rw [List.getElem?_eq_none q] at e1; cases e1) hE.nodup).1 (e1.trans e2.symm)
          subst hij
          rw [hi] at hj; injection hj with hj; subst hj
          exact ⟨p, hQ, hq⟩
      obtain ⟨ρ4, tmps4, ds4, w4, y4, r4, fr4, s4⟩ := ih _ hlt (seen.push e.born) w3 tmps3 (Nat.le_refl _) hk3' hx3' hfk hit3 hm3 hseen'
      exact ⟨ρ4, tmps4, ds4, w4, y4, r4, fr4, fun b' hal k cs hcs => To.pre ((pre b' _ cs).trans ((s3 b' hal _ cs hcs : Steps _ _ _).trans (.one st_inLoop))) (s4 b' hal k cs hcs)⟩
    · -- it ends
      rcases hqo with hqo | rfl
      · cases hqo
      change blockF bid (y1 + 1, j1, g) (.mk n' gs (Nat.lor wr (lowBits gs wr')) bs' cl') = some ((xx, id, f'), h') at hfin
      obtain ⟨rfl, _⟩ := blockF_eq hfin
      have hxf : Ext ρ h w ρ3 (.mk n' gs (Nat.lor wr (lowBits gs wr')) bs' cl') w3 := hx1.trans (Ext.of_bs (h1 := .mk n n 0 bs cl) (h2 := .mk n' g' wr' bs' cl') (h1' := .mk n gs wr bs cl) (h2' := .mk n' gs (Nat.lor wr (lowBits gs wr')) bs' cl') rfl rfl y3)
      have hrf : HR P ρ3 (.mk n' gs (Nat.lor wr (lowBits gs wr')) bs' cl') w3 := (r3.same (h' := .mk n' gs (Nat.lor wr (lowBits gs wr')) bs' cl') (w' := w3) (Nat.le_refl _) (Nat.le_trans hr1.gs kept.next) rfl rfl rfl rfl rfl rfl).2
      match y1, s3, hfin with
      | 0, s3, hfin =>
        change (match Nat.beq j1 bid with | true => M.pure (0, 0, g) | false => M.pure (1, j1, g) : M (Nat × Nat × Fm)) _ = _ at hfin
        cases hqb : Nat.beq j1 bid with
        | true =>
          rw [hqb] at hfin
          obtain ⟨e5, _⟩ := pure_some hfin
          cases e5
          refine ⟨ρ3, tmps3, ds3, w3, hxf, hrf, fr3, fun b' hal k cs hcs => ?_⟩
          obtain ⟨k', z1, z2⟩ := s3 b' hal (.inLoop (bodyOf r1 r2 sops bid ml) :: .inBlock bid :: k) cs hcs
          have hkk : exitTo j1 k' = some k := by rw [z1, beq_nat.1 hqb]; simp [exitTo]
          exact (pre b' _ cs).trans (z2.trans (.one (st_exit hkk)))
        | false =>
          rw [hqb] at hfin
          obtain ⟨e5, _⟩ := pure_some hfin
          cases e5
          refine ⟨ρ3, tmps3, ds3, w3, hxf, hrf, fr3, fun b' hal k cs hcs => ?_⟩
          obtain ⟨k', z1, z2⟩ := s3 b' hal (.inLoop (bodyOf r1 r2 sops bid ml) :: .inBlock bid :: k) cs hcs
          have hkk : exitTo id (.inLoop (bodyOf r1 r2 sops bid ml) :: .inBlock bid :: k) = exitTo id k := by
            have : (bid == id) = false := by simp; exact fun q => beq_nat_false.1 hqb q.symm
            simp [exitTo, this]
          exact ⟨k', z1.trans hkk, (pre b' _ cs).trans z2⟩
      | y1 + 1, s3, hfin =>
        obtain ⟨e5, _⟩ := pure_some hfin
        cases e5
        refine ⟨ρ3, tmps3, ds3, w3, hxf, hrf, fr3, fun b' hal k cs hcs => ?_⟩
        obtain ⟨k', z2⟩ := s3 b' hal (.inLoop (bodyOf r1 r2 sops bid ml) :: .inBlock bid :: k) cs hcs
        exact ⟨k', (pre b' _ cs).trans z2⟩
  · -- all were seen
    have ho' : o = none := by
      cases o with
      | none => rfl
      | some r =>
        obtain ⟨p, hp, h1⟩ := eachE_exit hall
        obtain ⟨e, he, hu⟩ := q3 p hp
        obtain ⟨p', hQ', h2⟩ := hseen e he (hover e he)
        rw [hu p' hQ'] at h2
        rw [h1] at h2; cases h2
    subst ho'
    injection hfin with hfin
    injection hfin with e1 e2
    injection e1 with e1 e3
    injection e3 with e3 e4
    subst e1; subst e2; subst e3; subst e4
    obtain ⟨xs, rs⟩ := hrj.same (h' := .mk n gs wr bs cl) (w' := w1) (Nat.le_refl _) hrj.gs rfl rfl hw1 g1 g2 g3
    let vs : Array Value := #[.bool false]
    have hfa := TmR.setF hfj n1 (v := .tup [.bool false]) (v' := .tuple vs) (.tup _ [.bool false] (.cons _ _ _ _ (.bool _) .nil))
    have hfb := TmR.setF hfa (d := ml.mo) (v := .bool false) (v' := .bool false) n2 (.bool false)
    refine ⟨ρ, _, [], w1, hxj.trans xs, rs, hfb, fun b' hal k cs hcs => ?_⟩
    refine (head_steps (P := P) (w := wj) (w1 := w1) (t := false) (vs := vs) (bid := bid) (r1 := r1) (r2 := r2) hs ha ha2 ha3 hc hc2 hc3 (by omega) (by omega) rfl (by rw [hptr]; exact hrun)).trans (.one (st_exit ?_))
    simp [exitTo]

theorem iter_some {x : V} {h h1 : H} {b m : Nat} {l : List (V × V)} (e : (match x with
    | .ptr b 0 => M.bind (getB b) fun x => match x with
      | .mit m since => M.bind (getB m) fun y => match entriesOf y since with
        | some l => M.pure (b, m, l)
        | none => M.fail
      | _ => M.fail
    | _ => M.fail : M (Nat × Nat × List (V × V))) h = some ((b, m, l), h1)) :
    h1 = h ∧ x = .ptr b 0 ∧ ∃ since y, h.bs.get b = some (.mit m since) ∧ h.bs.get m = some y ∧ entriesOf y since = some l := by
  split at e
  · rename_i b0
    obtain ⟨z, h2, e1, e2⟩ := bind_some e
    obtain ⟨rfl, hb⟩ := getB_some e1
    split at e2
    · rename_i m0 since
      obtain ⟨y, h3, e3, e4⟩ := bind_some e2
      obtain ⟨rfl, hy⟩ := getB_some e3
      generalize hq : entriesOf y since = q at e4
      cases q with
      | none => cases e4
      | some l0 =>
        obtain ⟨e5, rfl⟩ := pure_some e4
        cases e5
        exact ⟨rfl, rfl, since, y, hb, hy, hq⟩
    · cases e2
  · cases e
theorem nine {α : Type} {z1 z2 z3 z4 z5 z6 z7 z8 z9 : Bool} {g : M α} {r : α × H} (e : (match z1, z2, z3, z4, z5, z6, z7, z8, z9 with
    | true, true, true, true, true, true, true, true, true => g
    | _, _, _, _, _, _, _, _, _ => M.fail : M α) h = some r) : z1 = true ∧ z2 = true ∧ z3 = true ∧ z4 = true ∧ z5 = true ∧ z6 = true ∧ z7 = true ∧ z8 = true ∧ z9 = true ∧ g h = some r := by
  cases z1
  · cases e
  cases z2
  · cases e
  cases z3
  · cases e
  cases z4
  · cases e
  cases z5
  · cases e
  cases z6
  · cases e
  cases z7
  · cases e
  cases z8
  · cases e
  cases z9
  · cases e
  exact ⟨rfl, rfl, rfl, rfl, rfl, rfl, rfl, rfl, rfl, e⟩
theorem entriesOf_obj {y : B} {since : Nat} {l : List (V × V)} (e : entriesOf y since = some l) : y.isObj = true := by
  cases y <;> first | rfl | cases e

/-- A RANGE OVER A MAP -/
theorem mapLoopF_sound (hR : GoodR R) (ho : SOps P G R) (hc0 : SCode P G R) {bid : Nat} {c : Code} {ml : ML} {f : Fm} {x id : Nat} {f' : Fm} {h' : H} (hlp : loopParts bid c = some ml) (e : mapLoopF R bid ml f h = some ((x, id, f'), h'))
    {b : Frame} {tmps : Array Value} {ds : List Deferred} (hr : HR P ρ h w) (hc : Ctx P G ρ h) (hf : FR ρ b f tmps ds) : Out P ρ h w b f' h' (STo P b (.block bid c) tmps ds w x id) := by
  obtain ⟨r1, r2, sops, a, c1, x1, rest, rfl, s1, s2, s3, s4, s5, s6, s7, t1, t2, t3, t4⟩ := loopParts_some hlp
  unfold mapLoopF at e
  obtain ⟨⟨bi, m, l⟩, h1, e1, e2⟩ := bind_some e
  obtain ⟨rfl, hit, since, y, hbi, hm, hl⟩ := iter_some e1
  obtain ⟨k1, k2, k3, k4, k5, k6, k7, k8, k9, e2⟩ := nine e2
  · have hfd : f.defers = [] := by
      generalize f.defers = q at k2
      cases q <;> first | rfl | cases k2
    have hds : ds = [] := by have := hf.ds; rw [hfd] at this; cases this; rfl
    subst hds
    have i1 := blt_nat.1 k4
    have i2 := blt_nat.1 k5
    have n1 := blt_nat.1 k7
    have n2 := blt_nat.1 k8
    have n3 := blt_nat.1 k9
    have hyo := entriesOf_obj hl
    obtain ⟨bloc, hρb⟩ := (hr.dom bi).2 ⟨_, hbi⟩
    obtain ⟨mloc, hρm⟩ := (hr.dom m).2 ⟨_, hm⟩
    obtain ⟨mloc', hρm', hsh, hwb⟩ := hr.blk bi _ bloc hbi trivial hρb
    rw [hρm] at hρm'; injection hρm' with hρm'; subst hρm'
    have hlv : Lv h1.cl m y := by cases y <;> first | trivial | cases hyo
    obtain ⟨es, hwm, hE⟩ := ents_sound hl (hr.blk m y mloc hm hlv hρm)
    obtain ⟨hlt, hnd, Q, q1, q2, q3⟩ := hE
    have hne : bi ≠ m := by
      rintro rfl
      rw [hbi] at hm; injection hm with hm; subst hm; cases hl
    have hcy : clsOf y = 0 := by cases y <;> first | rfl | cases hyo
    have hlock := hr.lock hm hcy hbi rfl hne
    have hext : Ext ρ h1 w ρ (lockH h1 m bi) w := by
      refine ⟨Rn.le_refl ρ, Nat.le_refl _, fun _ _ _ => rfl, fun _ _ z => .inl z, fun i r hi => ?_, rfl, rfl, rfl⟩
      have z1 : i ≠ bi := by rintro rfl; rw [hbi] at hi; cases hi
      have z2 : i ≠ m := by rintro rfl; rw [hm] at hi; injection hi with hi; subst hi; cases hyo
      obtain ⟨n, gs, wr, bs, cl⟩ := h1
      show ((bs.set m (.ro [])).set bi (.ro [])).get i = some (.ro r)
      rw [T.get_set_ne _ _ z1, T.get_set_ne _ _ z2]; exact hi
    generalize hall : eachE R ml (killF f ml.it) (lockH h1 m bi) l = o at e2
    cases o with
    | none => cases e2
    | some o =>
      have hfin : finM bid ml (killF f ml.it) (lockH h1 m bi) o = some ((x, id, f'), h') := by
        cases o with
        | none => exact e2
        | some r => obtain ⟨r, h2⟩ := r; exact e2
      obtain ⟨ρ', tmps', ds', w', y1, y2, y3, y4⟩ := rounds_sound (r1 := r1) (r2 := r2) hR ho hc0 s1 s2 s3 s4 s5 s6 s7 t1 t2 t3 t4 hfd i1 i2 n1 n2 n3 hbi hm hyo hρb hρm hsh hr hc hit ⟨hlt, hnd, Q, q1, q2, q3⟩ q1 q2 q3 hall hfin
        _ #[] w tmps (Nat.le_refl _) hlock hext (killF_sound hf) hwb hwm (fun e _ he => by simp at he)
      exact ⟨ρ', tmps', ds', w', y1, y2, y3, fun b' hal k cs hcs => To.pre (.head st_block (.one st_loop)) (y4 b' hal k cs hcs)⟩
end Go.Ev
/- Loops over functions. -/
namespace Go.Ev
open Go
variable {P : Program} {G : Nat → Option (List V)} {R : Recs} {ρ : Rn} {h : H} {w : World}

theorem new_plain {b : B} {o : Obj} {id : Nat} {h' : H} (hr : HR P ρ h w) (e : newB b h = some (id, h')) (hb0 : clsOf b = 0)
    (hb : BR P (ρ.add id ⟨w.heap.size, 0, 0⟩) h'.cl b ⟨w.heap.size, 0, 0⟩ { w with heap := w.heap.push o }) :
    Ext ρ h w (ρ.add id ⟨w.heap.size, 0, 0⟩) h' { w with heap := w.heap.push o } ∧ HR P (ρ.add id ⟨w.heap.size, 0, 0⟩) h' { w with heap := w.heap.push o } := by
  obtain ⟨rfl, n1, n2, n3, n4⟩ := newB_some e
  have hnn : h.bs.get h.next = none := by
    cases hg : h.bs.get h.next with
    | none => rfl
    | some b => exact absurd (hr.lt _ _ hg) (Nat.lt_irrefl _)
  exact hr.add (tot := 0) (b := b) (o := o) hnn (by omega) (by omega) n3 n2 (fun _ _ => by rw [n4]) (fun hp => absurd hp (by omega)) rfl rfl rfl rfl hb
theorem newB_none {b : B} {id : Nat} {h' : H} (hr : HR P ρ h w) (e : newB b h = some (id, h')) : ρ id = none := by
  obtain ⟨rfl, _⟩ := newB_some e
  refine hr.none_of ?_
  cases hg : h.bs.get h.next with
  | none => rfl
  | some b => exact absurd (hr.lt _ _ hg) (Nat.lt_irrefl _)
theorem newB_le {b : B} {id : Nat} {h' : H} {loc : Loc} (hr : HR P ρ h w) (e : newB b h = some (id, h')) : ρ.le (ρ.add id loc) := by
  obtain ⟨rfl, _⟩ := newB_some e
  refine hr.le_add ?_ loc
  cases hg : h.bs.get h.next with
  | none => rfl
  | some b => exact absurd (hr.lt _ _ hg) (Nat.lt_irrefl _)

theorem getLoop_some {l : Nat} {r : LoopB} {h h' : H} (e : getLoop l h = some (r, h')) : h' = h ∧ h.bs.get l = some (.loop r) := by
  unfold getLoop at e
  obtain ⟨b, h1, e1, e2⟩ := bind_some e
  obtain ⟨rfl, hb⟩ := getB_some e1
  match b, e2 with
  | .loop r', e2 =>
    obtain ⟨rfl, rfl⟩ := pure_some e2
    exact ⟨rfl, hb⟩
/-- a record, with another state -/
def putL (w : World) (blk : Nat) (lp : Loop) : World := { w with heap := w.heap.setIfInBounds blk (.loop lp) }
theorem setLoop_is {l s : Nat} {p : Option Code} {h h' : H} {u : Unit} (e : setLoop l s p h = some (u, h')) : ∃ r, h.bs.get l = some (.loop r) ∧ h'.bs.get l = some (.loop { r with state := s, pending := p }) := by
  unfold setLoop at e
  obtain ⟨b, b', h1, h2, h3, h4, h5, h6⟩ := updB_some e
  match b, h2 with
  | .loop r, h2 =>
    injection h2 with h2; subst h2
    exact ⟨r, h1, by rw [h5, T.get_set_same]⟩
theorem setLoop_sound {l s : Nat} {p : Option Code} {h' : H} {u : Unit} {loc : Loc} (e : setLoop l s p h = some (u, h')) (hr : HR P ρ h w) (hρ : ρ l = some loc) :
    ∃ r lp, h.bs.get l = some (.loop r) ∧ w.heap[loc.blk]? = some (.loop lp) ∧ LR ρ r lp ∧
      Ext ρ h w ρ h' (putL w loc.blk { lp with state := stateOf s, pending := p }) ∧ HR P ρ h' (putL w loc.blk { lp with state := stateOf s, pending := p }) := by
  unfold setLoop at e
  obtain ⟨b, b', h1, h2, h3, h4, h5, h6⟩ := updB_some e
  match b, h1, h2 with
  | .loop r, h1, h2 =>
    injection h2 with h2; subst h2
    obtain ⟨lp, g1, g2⟩ := hr.blk l _ loc h1 trivial hρ
    have hin := hr.inb _ _ hρ
    refine ⟨r, lp, h1, g1, g2, hr.obj (w' := putL w loc.blk { lp with state := stateOf s, pending := p }) h1 hρ rfl rfl trivial (fun _ q => by cases q) h3 h4 h5 h6 rfl rfl rfl rfl ?_⟩
    refine ⟨{ lp with state := stateOf s, pending := p }, ?_, ⟨rfl, rfl, g2.fn, g2.tm, g2.low, g2.params, g2.assign, g2.body, g2.dfr⟩⟩
    show (w.heap.setIfInBounds loc.blk _)[loc.blk]? = _
    rw [Array.getElem?_setIfInBounds, if_pos rfl, if_pos hin]

section runs
variable {l : Nat} {r : Loop}
theorem r_getLoop (hl : w.heap[l]? = some (.loop r)) : (Instr.getLoop l).run P w = .ok r w := by
  have := r_obj (P := P) hl (by intro _ _ _ h; cases h)
  simp only [Instr.getLoop, Sem.run_bind, this, Result.andThen_ok, Sem.run_pure]
theorem r_setLoop (o : Loop) (hl : w.heap[l]? = some (.loop r)) : (setObj l (.loop o)).run P w = .ok () (putL w l o) := r_set hl (by intro _ _ _ h; cases h)
theorem r_enter0 (fn : FuncId) (tmps : Array Value) (ps : Array Tmp) (assign body : Code) : (Instr.enterLoop fn tmps ps assign body none).run P w =
    .ok (w.heap.size + 1, [{ target := .collected w.heap.size, args := #[] }])
      { w with heap := (w.heap.push (.deferred (some []))).push (.loop { state := .ready, pending := none, fn, tmps, params := ps, assign, body, defers := w.heap.size }) } := by
  unfold Instr.enterLoop
  simp only [Sem.run_bind, newObj, Sem.run, Result.andThen_ok, Sem.run_pure, Array.size_push]
theorem r_enter1 {l0 : Nat} {r0 : Loop} (h0 : w.heap[l0]? = some (.loop r0)) (fn : FuncId) (tmps : Array Value) (ps : Array Tmp) (assign body : Code) : (Instr.enterLoop fn tmps ps assign body (some l0)).run P w =
    .ok (w.heap.size, []) { w with heap := w.heap.push (.loop { state := .ready, pending := none, fn, tmps, params := ps, assign, body, defers := r0.defers }) } := by
  unfold Instr.enterLoop
  simp only [Sem.run_bind, r_getLoop h0, newObj, Sem.run, Result.andThen_ok, Sem.run_pure]
theorem r_begin (hl : w.heap[l]? = some (.loop r)) (hs : r.state = .ready) : (Instr.beginRound l).run P w = .ok () (putL w l { r with state := .busy }) := by
  simp only [Instr.beginRound, Sem.run_bind, r_getLoop hl, Result.andThen_ok, r_setLoop _ hl, hs, Sem.run_pure]
theorem r_endRound (jump : Option Code) (hl : w.heap[l]? = some (.loop r)) : (Instr.endRound l jump).run P w = .ok (.bool jump.isNone) (putL w l { r with state := if jump.isNone then .ready else .done, pending := jump }) := by
  simp only [Instr.endRound, Sem.run_bind, r_getLoop hl, Result.andThen_ok, r_setLoop _ hl, Sem.run_pure]
theorem r_endLoop (hl : w.heap[l]? = some (.loop r)) (hb : r.state ≠ .busy) : (Instr.endLoop l).run P w = .ok r.pending (putL w l { r with state := .exhausted }) := by
  have hb' : (r.state == LoopState.busy) = false := by
    cases hq : r.state <;> first | rfl | exact absurd hq hb
  simp only [Instr.endLoop, Sem.run_bind, r_getLoop hl, Result.andThen_ok, hb', Bool.false_eq_true, if_false, r_setLoop _ hl, Sem.run_pure]
end runs

/-- the end of a loop over a function -/
theorem endLoopF_sound {l : Nat} {f : Fm} {x id : Nat} {f' : Fm} {h' : H} {loc : Loc} {tmps : Array Value} {ds : List Deferred} (e : endLoopF l f h = some ((x, id, f'), h')) (hr : HR P ρ h w) (hρ : ρ l = some loc) :
    f' = f ∧ ∃ w', Ext ρ h w ρ h' w' ∧ HR P ρ h' w' ∧ ∀ (b : Frame) k cs, To P b (lone (frm b tmps ds (.endRangeFunc loc.blk :: k)) cs w) x id tmps ds w' k cs := by
  unfold endLoopF at e
  obtain ⟨r, h1, e1, e2⟩ := bind_some e
  obtain ⟨rfl, hb⟩ := getLoop_some e1
  obtain ⟨lp, g1, g2⟩ := hr.blk l _ loc hb trivial hρ
  have hst : r.state ≠ 1 := by
    intro q
    rw [q] at e2
    cases e2
  have e3 : M.bind (setLoop l 3 r.pending) (fun _ => match r.pending with
    | none => M.pure (0, 0, f)
    | some (.exit id) => M.pure (1, id, f)
    | some .ret => M.pure (2, 0, f)
    | some _ => M.fail) h1 = some ((x, id, f'), h') := by
    generalize hq : r.state = q at e2 hst
    match q, hst, e2 with
    | 0, _, e2 => exact e2
    | 1, hst, _ => exact absurd rfl hst
    | _ + 2, _, e2 => exact e2
  obtain ⟨u, h2, e4, e5⟩ := bind_some e3
  obtain ⟨r', lp', k1, k2, k3, k4, k5⟩ := setLoop_sound e4 hr hρ
  rw [hb] at k1; injection k1 with k1; injection k1 with k1; subst k1
  rw [g1] at k2; injection k2 with k2; injection k2 with k2; subst k2
  have hbusy : lp.state ≠ .busy := by
    rw [g2.state]
    match hq : r.state, hst with
    | 0, _ => intro q; cases q
    | 1, hst => exact absurd rfl hst
    | 2, _ => intro q; cases q
    | _ + 3, _ => intro q; cases q
  have hput : putL w loc.blk { lp with state := stateOf 3, pending := r.pending } = putL w loc.blk { lp with state := .exhausted } := by
    rw [← g2.pending]; rfl
  rw [hput] at k4 k5
  have hstep : ∀ (b : Frame) k cs, step P (lone (frm b tmps ds (.endRangeFunc loc.blk :: k)) cs w) = .next (lone (frm b tmps ds ((r.pending.map Item.code).toList ++ k)) cs (putL w loc.blk { lp with state := .exhausted })) := by
    intro b k cs
    refine step_lone_go ?_
    have := r_endLoop (P := P) g1 hbusy
    have hp : Option.map Item.code r.pending = Option.map Item.code lp.pending := by rw [g2.pending]
    rw [hp]
    simp only [stepG, stepG.exec, frm, Sem.runT_eq, this]
    rw [GStep.bare_after]
    rfl
  match hp : r.pending, e5 with
  | none, e5 =>
    obtain ⟨e6, rfl⟩ := pure_some e5
    cases e6
    refine ⟨rfl, _, k4, k5, fun b k cs => ?_⟩
    have := hstep b k cs
    rw [hp] at this
    exact .one this
  | some (.exit i), e5 =>
    obtain ⟨e6, rfl⟩ := pure_some e5
    cases e6
    refine ⟨rfl, _, k4, k5, fun b k cs => ⟨k, rfl, ?_⟩⟩
    have := hstep b k cs
    rw [hp] at this
    exact .one this
  | some .ret, e5 =>
    obtain ⟨e6, rfl⟩ := pure_some e5
    cases e6
    refine ⟨rfl, _, k4, k5, fun b k cs => ⟨k, ?_⟩⟩
    have := hstep b k cs
    rw [hp] at this
    exact .one this

theorem noWrap_in {l : Nat} {k : List Item} : NoWrap (.inRangeFunc l :: k) := by intro d r s k' h; cases h

theorem map_one (tmps : Array Value) (v : Value) : Array.map (evalT tmps) #[Operand.const v] = #[v] := by simp; rfl
/-- A LOOP OVER A FUNCTION -/
theorem rangeF_sound (hs : SCall P G R) {g : Operand} {ps : Array Nat} {a bd : Code} {f : Fm} {x id : Nat} {f' : Fm} {h' : H} (e : rangeF P R g ps a bd f h = some ((x, id, f'), h')) {b : Frame} {tmps : Array Value} {ds : List Deferred}
    (hr : HR P ρ h w) (hc : Ctx P G ρ h) (hf : FR ρ b f tmps ds) : Out P ρ h w b f' h' (STo P b (.rangeFunc g ps a bd) tmps ds w x id) := by
  unfold rangeF at e
  have hrd := hf.rd
  generalize hq : f.rd = rd at e hrd
  cases rd with
  | none =>
    have hb : b.roundOf = none := hrd
    simp only at e
    obtain ⟨d, h1, e1, e2⟩ := bind_some e
    obtain ⟨l, h2, e3, e4⟩ := bind_some e2
    obtain ⟨v, h3, e5, e6⟩ := bind_some e4
    obtain ⟨x1, r1⟩ := new_plain (o := .deferred (some [])) hr e1 rfl (by show (w.heap.push _)[w.heap.size]? = _; simp)
    have hle1 : ρ.le (ρ.add d ⟨w.heap.size, 0, 0⟩) := newB_le hr e1
    generalize hρ1 : ρ.add d ⟨w.heap.size, 0, 0⟩ = ρ1 at x1 r1 hle1
    have hd1 : ρ1 d = some ⟨w.heap.size, 0, 0⟩ := by rw [← hρ1]; exact Rn.add_same _ _ _
    let w1 : World := { w with heap := w.heap.push (.deferred (some [])) }
    have hw1 : w1.heap.size = w.heap.size + 1 := by simp [w1]
    let lp : Loop := { state := .ready, pending := none, fn := f.fn, tmps, params := ps, assign := a, body := bd, defers := w.heap.size }
    have hle2 : ρ1.le (ρ1.add l ⟨w1.heap.size, 0, 0⟩) := newB_le r1 e3
    obtain ⟨x2, r2⟩ := new_plain (o := .loop lp) (w := w1) r1 e3 rfl ⟨lp, by show (w1.heap.push _)[w1.heap.size]? = _; simp,
      ⟨rfl, rfl, rfl, (hf.tm.mono hle1).mono hle2, hf.low, rfl, rfl, rfl, ⟨w.heap.size, 0, 0⟩, hle2 _ _ hd1, rfl⟩⟩
    generalize hρ2 : ρ1.add l ⟨w1.heap.size, 0, 0⟩ = ρ2 at x2 r2 hle2
    have hl2 : ρ2 l = some ⟨w1.heap.size, 0, 0⟩ := by rw [← hρ2]; exact Rn.add_same _ _ _
    let w2 : World := { w1 with heap := w1.heap.push (.loop lp) }
    have hf2 : FR ρ2 b f tmps ds := (hf.mono hle1).mono hle2
    have hc2 : Ctx P G ρ2 h2 := (hc.ext x1).ext x2
    obtain ⟨ρ3, v', w3, x3, r3, _, call⟩ := hs _ _ _ _ _ e5 ρ2 w2 (evalT tmps g) [.func (.yield w1.heap.size) #[] #[]] r2 hc2 (hf2.hx hc2 g) (.cons _ _ _ _ (.yield l _ hl2) .nil)
    have hf3 : FR ρ3 b { tm := f.tm, n := f.n, fn := f.fn, defers := .mark d :: f.defers, rd := none } tmps ({ target := .collected w.heap.size, args := #[] } :: ds) :=
      ⟨hf2.tm.mono x3.le, hf2.low, hf2.fn, hb, .cons _ _ _ _ (.mark d ⟨w.heap.size, 0, 0⟩ (x3.le _ _ (hle2 _ _ hd1))) (hf2.ds.mono x3.le)⟩
    obtain ⟨rfl, w4, x4, r4, t4⟩ := endLoopF_sound (tmps := tmps) (ds := { target := .collected w.heap.size, args := #[] } :: ds) e6 r3 (x3.le _ _ hl2)
    refine ⟨ρ3, tmps, _, w4, ((x1.trans x2).trans x3).trans x4, r4, hf3, fun b hal k cs hcs => To.pre ?_ (t4 b k cs)⟩
    have hb := hal.2.trans hb
    have hfn := hal.1.trans hf.fn.symm
    have := call.steps (fr0 := frm b tmps ds (.code (.rangeFunc g ps a bd) :: k)) (cs := cs) (w0 := w) (fr := frm b tmps ({ target := .collected w.heap.size, args := #[] } :: ds) (.inRangeFunc w1.heap.size :: k)) ?_ noWrap_in
    · exact this
    · have he := frm_eval b tmps ({ target := .collected w.heap.size, args := #[] } :: ds) (.inRangeFunc w1.heap.size :: k)
      have hent := r_enter0 (P := P) (w := w) b.fn tmps ps a bd
      have hw1' : w.heap.size + 1 = w1.heap.size := hw1.symm
      simp only [stepG, stepG.exec, frm, hb, Sem.runT_eq, hent]
      rw [GStep.bare_after]
      simp only [frm, hb] at he
      simp only [List.cons_append, List.nil_append, ← hw1']
      rw [hw1']
      rw [he]
      simp only [inv, resolve, map_one]
      rw [hfn]
  | some lo =>
    obtain ⟨loc0, hlo, hb⟩ := hrd
    simp only at e
    obtain ⟨ro, h1, e1, e2⟩ := bind_some e
    obtain ⟨rfl, hbo⟩ := getLoop_some e1
    obtain ⟨lp0, g1, g2⟩ := hr.blk lo _ loc0 hbo trivial hlo
    obtain ⟨l, h2, e3, e4⟩ := bind_some e2
    obtain ⟨v, h3, e5, e6⟩ := bind_some e4
    let lp : Loop := { state := .ready, pending := none, fn := f.fn, tmps, params := ps, assign := a, body := bd, defers := lp0.defers }
    have hle2 : ρ.le (ρ.add l ⟨w.heap.size, 0, 0⟩) := newB_le hr e3
    obtain ⟨x2, r2⟩ := new_plain (o := .loop lp) (w := w) hr e3 rfl ⟨lp, by show (w.heap.push _)[w.heap.size]? = _; simp,
      ⟨rfl, rfl, rfl, hf.tm.mono hle2, hf.low, rfl, rfl, rfl, (g2.mono hle2).dfr⟩⟩
    generalize hρ2 : ρ.add l ⟨w.heap.size, 0, 0⟩ = ρ2 at x2 r2 hle2
    have hl2 : ρ2 l = some ⟨w.heap.size, 0, 0⟩ := by rw [← hρ2]; exact Rn.add_same _ _ _
    let w2 : World := { w with heap := w.heap.push (.loop lp) }
    have hf2 : FR ρ2 b f tmps ds := hf.mono hle2
    have hc2 : Ctx P G ρ2 h2 := hc.ext x2
    obtain ⟨ρ3, v', w3, x3, r3, _, call⟩ := hs _ _ _ _ _ e5 ρ2 w2 (evalT tmps g) [.func (.yield w.heap.size) #[] #[]] r2 hc2 (hf2.hx hc2 g) (.cons _ _ _ _ (.yield l _ hl2) .nil)
    have hf3 : FR ρ3 b f tmps ds := hf2.mono x3.le
    obtain ⟨rfl, w4, x4, r4, t4⟩ := endLoopF_sound (tmps := tmps) (ds := ds) e6 r3 (x3.le _ _ hl2)
    refine ⟨ρ3, tmps, _, w4, (x2.trans x3).trans x4, r4, hf3, fun b hal k cs hcs => To.pre ?_ (t4 b k cs)⟩
    have hb := hal.2.trans hb
    have hfn := hal.1.trans hf.fn.symm
    have := call.steps (fr0 := frm b tmps ds (.code (.rangeFunc g ps a bd) :: k)) (cs := cs) (w0 := w) (fr := frm b tmps ds (.inRangeFunc w.heap.size :: k)) ?_ noWrap_in
    · exact this
    · have he := frm_eval b tmps ds (.inRangeFunc w.heap.size :: k)
      have hent := r_enter1 (P := P) (w := w) g1 b.fn tmps ps a bd
      simp only [stepG, stepG.exec, frm, hb, Sem.runT_eq, hent]
      rw [GStep.bare_after]
      simp only [frm, hb] at he
      simp only [List.nil_append]
      rw [he]
      simp only [inv, resolve, map_one]
      rw [hfn]
end Go.Ev
/- Results; deferred calls; rounds. -/
namespace Go.Ev
open Go
variable {P : Program} {G : Nat → Option (List V)} {R : Recs} {ρ : Rn} {h : H} {w : World}

-- RESULTS

theorem resV_nil (tm : T V) : resV P tm [] = M.pure [] := rfl
theorem resV_tmp (tm : T V) (t : Nat) (l : List ResultVar) : resV P tm (.tmp t :: l) = M.bind (resV P tm l) fun l => M.pure (tmpV tm t :: l) := rfl
theorem resV_cell (tm : T V) (a t : Nat) (l : List ResultVar) : resV P tm (.cell a t :: l) = (match tmpV tm a with
    | .ptr b o => M.bind (loadV P t b o) fun v => M.bind (resV P tm l) fun l => M.pure (v :: l)
    | _ => M.fail) := rfl
/-- how results are read, one by one -/
structure ReadsRes (tmps : Array Value) (g : ResultVar → Sem Value) : Prop where
  tmp : ∀ t, g (.tmp t) = pure (tmps.getD t undef)
  cell : ∀ a t, g (.cell a t) = asAddr (tmps.getD a undef) >>= loadVar t
theorem resV_sound {tm : T V} {tmps : Array Value} {g : ResultVar → Sem Value} (hg : ReadsRes tmps g) (ht : ∀ t, VR ρ (tmpV tm t) (tmps.getD t undef)) (hr : HR P ρ h w) : ∀ (l : List ResultVar) (vs : List V) (h' : H), resV P tm l h = some (vs, h') →
    h' = h ∧ ∃ vs', (l.mapM g).run P w = .ok vs' w ∧ VRs ρ vs vs' := by
  intro l
  induction l with
  | nil =>
    intro vs h' e
    rw [resV_nil] at e
    obtain ⟨rfl, rfl⟩ := pure_some e
    exact ⟨rfl, [], by simp [List.mapM_nil], .nil⟩
  | cons r l ih =>
    intro vs h' e
    cases r with
    | tmp t =>
      rw [resV_tmp] at e
      obtain ⟨l1, h1, e1, e2⟩ := bind_some e
      obtain ⟨rfl, rfl⟩ := pure_some e2
      obtain ⟨rfl, vs', a, b⟩ := ih l1 _ e1
      exact ⟨rfl, _ :: vs', by simp only [List.mapM_cons, Sem.run_bind, hg.tmp, Sem.run_pure, Result.andThen_ok, a], .cons _ _ _ _ (ht t) b⟩
    | cell ad t =>
      rw [resV_cell] at e
      have hta := ht ad
      generalize tmpV tm ad = va at e hta
      match va, hta, e with
      | .ptr b o, hta, e =>
        simp only at e
        obtain ⟨v, h1, e1, e2⟩ := bind_some e
        obtain ⟨l1, h2, e3, e4⟩ := bind_some e2
        obtain ⟨rfl, rfl⟩ := pure_some e4
        unfold loadV at e1
        obtain ⟨x, h3, e5, e6⟩ := bind_some e1
        obtain ⟨rfl, g2, g3⟩ := getL_some e5
        obtain ⟨e7, rfl⟩ := lift_some e6
        obtain ⟨rfl, vs', a, b'⟩ := ih l1 _ e3
        generalize hz : tmps.getD ad undef = z at hta
        cases hta with
        | ptr _ _ loc hρ =>
          obtain ⟨v', k1, k2⟩ := loadB_sound (hr.blk b x loc g2 g3 hρ) e7
          refine ⟨rfl, v' :: vs', ?_, .cons _ _ _ _ k2 b'⟩
          simp only [List.mapM_cons, Sem.run_bind, hg.cell, hz, asAddr, Sem.run_pure, Result.andThen_ok, k1, a]
theorem tupV_sound {l : List V} {l' : List Value} (hl : VRs ρ l l') : VR ρ (tupV l) (if h : l'.toArray.size = 1 then l'.toArray[0] else .tuple l'.toArray) := by
  match l, l', hl with
  | [], [], .nil => exact .tup [] [] .nil
  | [v], [v'], .cons _ _ _ _ hv .nil => exact hv
  | a :: b :: l, a' :: b' :: l', hl =>
    have : ¬ (a' :: b' :: l').toArray.size = 1 := by simp
    rw [dif_neg this]
    exact .tup _ _ hl
/-- what a function gives back -/
theorem results_sound {fn : Func} {tm : T V} {tmps : Array Value} (ht : ∀ t, VR ρ (tmpV tm t) (tmps.getD t undef)) (hr : HR P ρ h w) {vs : List V} {h' : H} (e : resV P tm fn.results.toList h = some (vs, h')) :
    h' = h ∧ ∃ v', (results fn tmps).run P w = .ok v' w ∧ VR ρ (tupV vs) v' := by
  have key : ∀ g : ResultVar → Sem Value, ReadsRes tmps g → ∃ v', (fn.results.mapM g >>= fun vs => pure (if h : vs.size = 1 then vs[0] else .tuple vs) : Sem Value).run P w = .ok v' w ∧ VR ρ (tupV vs) v' ∧ h' = h := by
    intro g hg
    obtain ⟨rfl, vs', a, b⟩ := resV_sound hg ht hr _ vs h' e
    refine ⟨_, ?_, tupV_sound b, rfl⟩
    rw [Array.mapM_eq_mapM_toList]
    simp only [Sem.run_bind, Sem.run_map, a, Result.andThen_ok, Sem.run_pure]
  obtain ⟨v', a, b, c⟩ := key (fun r => match r with
    | .tmp t => pure (tmps.getD t undef)
    | .cell a t => asAddr (tmps.getD a undef) >>= loadVar t) ⟨fun _ => rfl, fun _ _ => rfl⟩
  refine ⟨c, v', ?_, b⟩
  rw [← a]
  unfold results
  congr 1

-- DEFERRED CALLS

def SDefers (P : Program) (G : Nat → Option (List V)) (R : Recs) : Prop := ∀ (l : List Df) (h : H) (u : Unit) (h' : H), R.defers l h = some (u, h') → ∀ ρ w ds, HR P ρ h w → Ctx P G ρ h → DfsR ρ l ds →
  ∃ ρ' w', Ext ρ h w ρ' h' w' ∧ HR P ρ' h' w' ∧ ∀ (fr : Frame) cs, fr.mode = .returning → Steps P (lone { fr with defers := ds } cs w) (lone { fr with defers := [] } cs w')

theorem defersF_sound (hs : SCall P G R) (hd : SDefers P G R) {l : List Df} {u : Unit} {h' : H} {ds : List Deferred} (e : defersF R l h = some (u, h')) (hr : HR P ρ h w) (hc : Ctx P G ρ h) (hl : DfsR ρ l ds) :
    ∃ ρ' w', Ext ρ h w ρ' h' w' ∧ HR P ρ' h' w' ∧ ∀ (fr : Frame) cs, fr.mode = .returning → Steps P (lone { fr with defers := ds } cs w) (lone { fr with defers := [] } cs w') := by
  cases hl with
  | nil =>
    obtain ⟨_, rfl⟩ := pure_some e
    exact ⟨ρ, w, Ext.refl _ _ _, hr, fun _ _ _ => .refl _ _⟩
  | cons d d' l ds h1 hs1 =>
    cases h1 with
    | mark id loc hρ =>
      have e' : M.bind (takeD id) (fun _ => R.defers l) h = some (u, h') := e
      obtain ⟨_, h1, e1, e2⟩ := bind_some e'
      unfold takeD at e1
      obtain ⟨b, b', g1, g2, g3, g4, g5, g6⟩ := updB_some e1
      match b, g1, g2 with
      | .dfr false, g1, g2 =>
        injection g2 with g2; subst g2
        have hbr := hr.blk id _ loc g1 trivial hρ
        have hobj : w.heap[loc.blk]? = some (.deferred (some [])) := hbr
        have hin := hr.inb _ _ hρ
        obtain ⟨x1, r1⟩ := hr.obj (w' := { w with heap := w.heap.setIfInBounds loc.blk (.deferred none) }) g1 hρ rfl rfl trivial (fun _ q => by cases q) g3 g4 g5 g6 rfl rfl rfl rfl
          (by show (w.heap.setIfInBounds loc.blk _)[loc.blk]? = _; rw [Array.getElem?_setIfInBounds, if_pos rfl, if_pos hin]; rfl)
        obtain ⟨ρ2, w2, x2, r2, s2⟩ := hd _ _ _ _ e2 _ _ ds r1 (hc.ext x1) (hs1.mono x1.le)
        refine ⟨ρ2, w2, x1.trans x2, r2, fun fr cs hm => .head (step_lone_go ?_) (s2 fr cs hm)⟩
        have hrun : (Instr.takeDeferred loc.blk).run P w = .ok [] { w with heap := w.heap.setIfInBounds loc.blk (.deferred none) } := by
          have q1 := r_obj (P := P) hobj (by intro _ _ _ q; cases q)
          have q2 := r_set (P := P) (o' := .deferred none) hobj (by intro _ _ _ q; cases q)
          simp only [Instr.takeDeferred, Sem.run_bind, q1, q2, Result.andThen_ok, Sem.run_pure]
        simp only [stepG, hm, unwind, Sem.runT_eq, hrun]
        rw [GStep.bare_after]
        rfl
    | call k a c a' c' ha hcc =>
      have e' : M.bind (R.call (.fn (.func k) a c) []) (fun _ => R.defers l) h = some (u, h') := e
      obtain ⟨v, h1, e1, e2⟩ := bind_some e'
      obtain ⟨ρ1, v', w1, x1, r1, _, call⟩ := hs _ _ _ _ _ e1 ρ w (.func (.func k) a'.toArray c'.toArray) [] hr hc (.fn _ _ _ _ _ (fun _ q => by cases q) ha hcc) .nil
      obtain ⟨ρ2, w2, x2, r2, s2⟩ := hd _ _ _ _ e2 _ _ ds r1 (hc.ext x1) (hs1.mono x1.le)
      refine ⟨ρ2, w2, x1.trans x2, r2, fun fr cs hm => Steps.trans ?_ (s2 fr cs hm)⟩
      obtain ⟨nx, w3, q1, q2⟩ := call
      have hrun : (invoke (.fn (.func k) c'.toArray) a'.toArray).run P w = .ok nx w3 := by
        rw [inv_func] at q1
        simp only [invoke]
        rw [← q1]
        simp
      cases nx with
      | value x =>
        obtain ⟨_, rfl⟩ := q2
        refine .one (step_lone_go ?_)
        simp only [stepG, hm, unwind, callDeferred, Sem.runT_eq, hrun]
        rfl
      | skip =>
        obtain ⟨_, rfl⟩ := q2
        refine .one (step_lone_go ?_)
        simp only [stepG, hm, unwind, callDeferred, Sem.runT_eq, hrun]
        rfl
      | enter f args =>
        refine .head (step_lone_go ?_) ((q2 .deferred).gives.deferred (c := { fr with defers := ds }) rfl hm)
        simp only [stepG, hm, unwind, callDeferred, Sem.runT_eq, hrun]
        rfl
      | round l f tmps a b =>
        refine .head (step_lone_go ?_) ((q2 .deferred).deferred (c := { fr with defers := ds }) rfl hm)
        simp only [stepG, hm, unwind, callDeferred, Sem.runT_eq, hrun]
        rfl
      | _ => exact q2.elim
end Go.Ev
/- Rounds. -/
namespace Go.Ev
open Go
variable {P : Program} {G : Nat → Option (List V)} {R : Recs} {ρ : Rn} {h : H} {w : World}

theorem bindP_cons (n p : Nat) (ps : List Nat) (a : V) (as : List V) (tm : T V) : bindP n (p :: ps) (a :: as) tm = (match Nat.blt p n with
      | true => bindP n ps as (tm.set p a)
      | false => none) := rfl
theorem bindP_sound {n : Nat} : ∀ (ps : List Nat) (as : List V) (as' : List Value) (tm tm' : T V) (tmps : Array Value), bindP n ps as tm = some tm' → VRs ρ as as' → TmR ρ tm n tmps → (∀ t, n ≤ t → tm.get t = none) →
    as'.length = ps.length ∧ TmR ρ tm' n ((ps.zip as').foldl (fun tmps (x : Nat × Value) => tmps.setIfInBounds x.1 x.2) tmps) ∧ ∀ t, n ≤ t → tm'.get t = none
  | [], as, as', tm, tm', tmps, e, ha, ht, hl => by
    cases ha with
    | nil =>
      change some tm = some tm' at e
      injection e with e; subst e
      exact ⟨rfl, ht, hl⟩
    | cons => cases e
  | p :: ps, as, as', tm, tm', tmps, e, ha, ht, hl => by
    cases ha with
    | nil => cases e
    | cons v v' l l' hv hs =>
      rw [bindP_cons] at e
      cases hp : Nat.blt p n with
      | false => rw [hp] at e; cases e
      | true =>
        rw [hp] at e
        have hp' := blt_nat.1 hp
        obtain ⟨a, b, c⟩ := bindP_sound ps l l' (tm.set p v) tm' (tmps.setIfInBounds p v') e hs (ht.set hp' hv) (low_set hl hp')
        exact ⟨by simp [a], b, c⟩

theorem leaves_round {b : Frame} {tmps : Array Value} {ds : List Deferred} {cs : List Frame} {w w' : World} {l : Nat} {jump : Option Code} {v : Value} {todo : List Item} (hb : b.roundOf = some l)
    (hj : (jump = none ∧ todo = []) ∨ (∃ id k, jump = some (.exit id) ∧ todo = .code (.exit id) :: k ∧ exitTo id k = none) ∨ (∃ k, jump = some .ret ∧ todo = .code .ret :: k))
    (he : (Instr.endRound l jump).run P w = .ok v w') : Leaves P (frm b tmps ds todo) cs w v w' := by
  unfold Leaves
  rcases hj with ⟨rfl, rfl⟩ | ⟨id, k, rfl, rfl, hk⟩ | ⟨k, rfl, rfl⟩
  · simp only [stepG, stepG.exec, frm, hb, Sem.runT_eq, he]
    rw [GStep.bare_after]
  · simp only [stepG, stepG.exec, frm, hb, Sem.runT_eq, hk, Option.elim_none, he]
    rw [GStep.bare_after]
  · simp only [stepG, stepG.exec, frm, hb, Sem.runT_eq, he]
    rw [GStep.bare_after]

theorem noWrap_begin {k : List Item} : NoWrap (.beginRound :: k) := by intro d r s k' h; cases h

theorem foldl_zip (ps : Array Nat) (args : Array Value) (tmps : Array Value) : (ps.zip args).foldl (fun tmps (t, a) => tmps.setIfInBounds t a) tmps = (ps.toList.zip args.toList).foldl (fun tmps (x : Nat × Value) => tmps.setIfInBounds x.1 x.2) tmps := by
  rw [← Array.foldl_toList, Array.toList_zip]

/-- A ROUND -/
theorem yieldF_sound (hcode : SCode P G R) {l : Nat} {args : List V} {v : V} {h' : H} (e : yieldF R l args h = some (v, h')) (hr : HR P ρ h w) (hc : Ctx P G ρ h) {loc : Loc} (hl : ρ l = some loc) {args' : List Value} (ha : VRs ρ args args') :
    ∃ ρ' v' w', Ext ρ h w ρ' h' w' ∧ HR P ρ' h' w' ∧ VR ρ' v v' ∧ Calling P (Instr.yield loc.blk args'.toArray) w v' w' := by
  unfold yieldF at e
  obtain ⟨r, h1, e1, e2⟩ := bind_some e
  obtain ⟨rfl, hb⟩ := getLoop_some e1
  obtain ⟨lp, g1, g2⟩ := hr.blk l _ loc hb trivial hl
  generalize htm : bindP r.n r.params args r.tm = otm at e2
  cases otm with
  | none => cases e2
  | some tm =>
    simp only at e2
    obtain ⟨⟨x1, i1, f1⟩, h2, e3, e4⟩ := bind_some e2
    obtain ⟨hlen, ht, hlow⟩ := bindP_sound r.params args args' r.tm tm lp.tmps htm ha g2.tm g2.low
    match x1, e3, e4 with
    | 0, e3, e4 =>
      simp only at e4
      obtain ⟨r', h3, e5, e6⟩ := bind_some e4
      obtain ⟨rfl, hb2⟩ := getLoop_some e5
      have hst : r'.state = 0 := by
        generalize r'.state = q at e6
        match q, e6 with
        | 0, _ => rfl
      rw [hst] at e6
      simp only at e6
      obtain ⟨_, h4, e7, e8⟩ := bind_some e6
      obtain ⟨⟨x2, i2, f2⟩, h5, e9, e10⟩ := bind_some e8
      simp only at e10
      have hds : f2.defers = [] := by
        generalize f2.defers = q at e10
        match q, e10 with
        | [], _ => rfl
      rw [hds] at e10
      simp only at e10
      let tmps0 : Array Value := (r.params.zip args').foldl (fun tmps (x : Nat × Value) => tmps.setIfInBounds x.1 x.2) lp.tmps
      let b : Frame := { (default : Frame) with fn := lp.fn, roundOf := some loc.blk }
      have hfr : FR ρ b { tm := tm, n := r.n, fn := r.fn, defers := [], rd := some l } tmps0 [] := ⟨ht, hlow, g2.fn.symm, ⟨loc, hl, rfl⟩, .nil⟩
      obtain ⟨ρ1, tmps1, ds1, w1, xx1, r1, fr1, s1⟩ := hcode _ _ _ _ _ _ _ e3 ρ w b tmps0 [] hr hc hfr
      have hl1 := xx1.le _ _ hl
      obtain ⟨lr2, lp2, k1, k2, k3, k4, k5⟩ := setLoop_sound e7 r1 hl1
      rw [hb2] at k1; injection k1 with k1; injection k1 with k1; subst k1
      have hready : lp2.state = .ready := by rw [k3.state, hst]; rfl
      have hpend : lp2.pending = r'.pending := k3.pending
      have hbusy : putL w1 loc.blk { lp2 with state := stateOf 1, pending := r'.pending } = putL w1 loc.blk { lp2 with state := .busy } := by rw [← hpend]; rfl
      rw [hbusy] at k4 k5
      have hd1 : ds1 = ds1 := rfl
      obtain ⟨ρ2, tmps2, ds2, w2, xx2, r2, fr2, s2⟩ := hcode _ _ _ _ _ _ _ e9 ρ1 _ b tmps1 ds1 k5 ((hc.ext xx1).ext k4) fr1
      have hds2 : ds2 = [] := by
        have := fr2.ds
        rw [hds] at this
        cases this; rfl
      subst hds2
      have hl2 := xx2.le _ _ hl1
      -- the end
      have fin : ∃ v' w', Ext ρ2 h5 w2 ρ2 h' w' ∧ HR P ρ2 h' w' ∧ VR ρ2 v v' ∧ (Instr.endRound loc.blk (jumpOf x2 i2)).run P w2 = .ok v' w' := by
        generalize jumpOf x2 i2 = j at e10
        cases j with
        | none =>
          have e10' : M.bind (setLoop l 0 none) (fun _ => M.pure (.bool true)) h5 = some (v, h') := e10
          obtain ⟨_, h6, e11, e12⟩ := bind_some e10'
          obtain ⟨rfl, rfl⟩ := pure_some e12
          obtain ⟨lr3, lp3, m1, m2, m3, m4, m5⟩ := setLoop_sound e11 r2 hl2
          exact ⟨_, _, m4, m5, .bool true, r_endRound none m2⟩
        | some c =>
          have e10' : M.bind (setLoop l 2 (some c)) (fun _ => M.pure (.bool false)) h5 = some (v, h') := e10
          obtain ⟨_, h6, e11, e12⟩ := bind_some e10'
          obtain ⟨rfl, rfl⟩ := pure_some e12
          obtain ⟨lr3, lp3, m1, m2, m3, m4, m5⟩ := setLoop_sound e11 r2 hl2
          exact ⟨_, _, m4, m5, .bool false, r_endRound (some c) m2⟩
      obtain ⟨v', w', z1, z2, z3, z4⟩ := fin
      refine ⟨ρ2, v', w', ((xx1.trans k4).trans xx2).trans z1, z2, z3, .round loc.blk lp.fn tmps0 lp.assign lp.body, w, ?_, fun kind cs hcs => ?_⟩
      · have hsz : args'.toArray.size = lp.params.size := by
          have := congrArg List.length g2.params
          simp only [Array.length_toList] at this
          simp [hlen, this]
        simp only [Instr.yield, Sem.run_bind, r_getLoop g1, Result.andThen_ok, hsz, ne_eq, not_true_eq_false, if_false, Sem.run_pure]
        rw [foldl_zip, g2.params]
      · let bk : Frame := { b with kind := kind }
        have hal : Alike b bk := ⟨rfl, rfl⟩
        have q1 := s1 bk hal [.beginRound, .code lp.body] cs hcs
        have e0 : Frame.round loc.blk lp.fn tmps0 lp.assign lp.body kind = frm bk tmps0 [] [.code lp.assign, .beginRound, .code lp.body] := rfl
        rw [← g2.assign] at q1
        have q2 : Steps P (lone (frm bk tmps1 ds1 [.beginRound, .code lp.body]) cs w1) (lone (frm bk tmps1 ds1 [.code lp.body]) cs (putL w1 loc.blk { lp2 with state := .busy })) := by
          have hrun : ((do (some loc.blk).elim (stuck "beginRound: no round") Instr.beginRound; pure .skip : Sem Next)).run P w1 = .ok .skip (putL w1 loc.blk { lp2 with state := .busy }) := by
            simp only [Option.elim_some, Sem.run_bind, r_begin k2 hready, Result.andThen_ok, Sem.run_pure]
          have cal : Calling P (do (some loc.blk).elim (stuck "beginRound: no round") Instr.beginRound; pure .skip : Sem Next) w1 undef (putL w1 loc.blk { lp2 with state := .busy }) := ⟨.skip, _, hrun, rfl, rfl⟩
          exact cal.steps (fr0 := frm bk tmps1 ds1 [.beginRound, .code lp.body]) (fr := frm bk tmps1 ds1 [.beginRound, .code lp.body]) (cs := cs) (w0 := w1) rfl noWrap_begin
        have q3 := s2 bk hal [] cs hcs
        rw [← g2.body] at q3
        rw [e0]
        have q12 := Steps.trans (q1 : Steps _ _ _) q2
        match x2, z4, q3 with
        | 0, z4, q3 => exact ⟨_, w2, q12.trans q3, rfl, leaves_round rfl (.inl ⟨rfl, rfl⟩) z4⟩
        | 1, z4, ⟨k', a, q3⟩ => exact ⟨_, w2, q12.trans q3, rfl, leaves_round rfl (.inr (.inl ⟨i2, k', rfl, rfl, a⟩)) z4⟩
        | n + 2, z4, ⟨k', q3⟩ => exact ⟨_, w2, q12.trans q3, rfl, leaves_round rfl (.inr (.inr ⟨k', rfl, rfl⟩)) z4⟩
end Go.Ev
/- Calls of the program's functions; the evaluator is sound. -/
namespace Go.Ev
open Go
variable {P : Program} {G : Nat → Option (List V)} {R : Recs} {ρ : Rn} {h : H} {w : World}

/-- what is known of the program's functions, is so -/
structure KOk (P : Program) (G : Nat → Option (List V)) (K : Known) : Prop where
  fn : ∀ k fn, K.fn k = some fn → P.funcs[k]? = some fn ∧ (fn.name == "runtime.NumGoroutine") = false
  ext : ∀ k fn l v (h h' : H), K.fn k = some fn → fn.body = none → extV (K.ext k) l h = some (v, h') → ∀ ρ w l', VRs ρ l l' → h' = h ∧ ∃ v', (callFunc k l'.toArray).run P w = .ok (.value v') w ∧ VR ρ v v'
  sum : ∀ k l v, K.sum k l = some v → ∀ ρ (h : H) w l', HR P ρ h w → Ctx P G ρ h → VRs ρ l l' → ∃ v' w', Ext ρ h w ρ h w' ∧ HR P ρ h w' ∧ VR ρ v v' ∧ Calling P (callFunc k l'.toArray) w v' w'

theorem bindA_cons (a : V) (l : List V) (i : Nat) (tm : T V) : bindA (a :: l) i tm = bindA l (i + 1) (tm.set i a) := rfl
theorem bindA_get : ∀ (l : List V) (i t : Nat) (tm : T V), (bindA l i tm).get t = if i ≤ t ∧ t < i + l.length then l[t - i]? else tm.get t
  | [], i, t, tm => by
    rw [if_neg (by simp)]
    rfl
  | a :: l, i, t, tm => by
    rw [bindA_cons, bindA_get l (i + 1) t]
    by_cases h1 : t = i
    · subst h1
      rw [if_neg (by omega), if_pos (by simp), T.get_set_same]; simp
    · rw [T.get_set_ne _ _ h1]
      by_cases h2 : i ≤ t ∧ t < i + (a :: l).length
      · rw [if_pos h2, if_pos (by simp only [List.length_cons] at h2; omega)]
        have : t - i = (t - (i + 1)) + 1 := by omega
        rw [this]; simp
      · rw [if_neg h2, if_neg (by simp only [List.length_cons] at h2; omega)]
theorem args_tm {args : List V} {args' : List Value} {n : Nat} (ha : VRs ρ args args') (hn : args.length ≤ n) : TmR ρ (bindA args 0 .e) n (args'.toArray ++ Array.replicate (n - args'.toArray.size) undef) ∧ ∀ t, n ≤ t → (bindA args 0 .e).get t = none := by
  have hlen := ha.length
  refine ⟨⟨by simp; omega, fun i hi => ?_⟩, fun t ht => ?_⟩
  · unfold tmpV
    rw [bindA_get]
    by_cases h1 : i < args.length
    · rw [if_pos (by omega)]
      have hg : args[i - 0]? = some args[i] := by rw [Nat.sub_zero]; exact List.getElem?_eq_getElem h1
      rw [hg]
      obtain ⟨v', a, b⟩ := ha.get (List.getElem?_eq_getElem h1)
      have : (args'.toArray ++ Array.replicate (n - args'.toArray.size) undef).getD i undef = v' := by
        rw [Array.getD_eq_getD_getElem?, Array.getElem?_append_left (by simp; omega)]
        simp [a]
      rw [this]; exact b
    · rw [if_neg (by omega)]
      have : (args'.toArray ++ Array.replicate (n - args'.toArray.size) undef).getD i undef = undef := by
        rw [Array.getD_eq_getD_getElem?, Array.getElem?_append_right (by simp; omega)]
        rw [Array.getElem?_replicate]
        split <;> rfl
      rw [this]
      exact .tup [] [] .nil
  · rw [bindA_get, if_neg (by omega)]; rfl

theorem callFunc_enter {k : Nat} {fn : Func} {c : Code} {args : Array Value} (hf : P.funcs[k]? = some fn) (hn : (fn.name == "runtime.NumGoroutine") = false) (hb : fn.body = some c) : (callFunc k args).run P w = .ok (.enter k args) w := by
  simp only [callFunc, Sem.run_bind, program, Sem.run, Result.andThen_ok, hf, hn, hb, Option.isNone_some, Bool.false_eq_true, if_false, Sem.run_pure]
theorem frame_enter {k : Nat} {fn : Func} {c : Code} {args : Array Value} (hf : P.funcs[k]? = some fn) (hb : fn.body = some c) (kind : CallKind) :
    Frame.enter P k args kind = frm { (default : Frame) with fn := k, kind } (args ++ Array.replicate (fn.ntmps - args.size) undef) [] [.code c] := by
  simp only [Frame.enter, frm, hf, hb, Option.map_some, Option.getD_some, Option.bind_some]
  rfl

theorem st_leave {b : Frame} {tmps : Array Value} {ds : List Deferred} {cs : List Frame} (hb : b.roundOf = none) : step P (lone (frm b tmps ds []) cs w) = .next (lone { frm b tmps ds [] with mode := .returning } cs w) := step_lone_go (by simp [stepG, stepG.exec, frm, hb])
theorem st_ret {b : Frame} {tmps : Array Value} {ds : List Deferred} {cs : List Frame} {k : List Item} (hb : b.roundOf = none) : step P (lone (frm b tmps ds (.code .ret :: k)) cs w) = .next (lone { frm b tmps ds (.code .ret :: k) with mode := .returning } cs w) :=
  step_lone_go (by simp [stepG, stepG.exec, frm, hb])

/-- A FUNCTION -/
theorem enterF_sound {K : Known} (hK : KOk P G K) (hcode : SCode P G R) (hdef : SDefers P G R) {k : Nat} {args : List V} {v : V} {h' : H} (e : enterF P R K k args h = some (v, h')) (hr : HR P ρ h w) (hc : Ctx P G ρ h) {args' : List Value} (ha : VRs ρ args args') :
    ∃ ρ' v' w', Ext ρ h w ρ' h' w' ∧ HR P ρ' h' w' ∧ VR ρ' v v' ∧ Calling P (callFunc k args'.toArray) w v' w' := by
  unfold enterF at e
  generalize hfn : K.fn k = ofn at e
  cases ofn with
  | none => cases e
  | some fn =>
    simp only at e
    obtain ⟨hf, hname⟩ := hK.fn k fn hfn
    generalize hb : fn.body = ob at e
    cases ob with
    | none =>
      obtain ⟨rfl, v', q1, q2⟩ := hK.ext k fn args v h h' hfn hb e ρ w args' ha
      exact ⟨ρ, v', w, Ext.refl _ _ _, hr, q2, .value v', w, q1, rfl, rfl⟩
    | some c =>
      simp only at e
      generalize hle : Nat.ble (llen args) fn.ntmps = ok at e
      cases ok with
      | false => cases e
      | true =>
        rw [llen_eq, ble_nat] at hle
        simp only at e
        obtain ⟨⟨x, id, f1⟩, h1, e1, e2⟩ := bind_some e
        obtain ⟨ht, hlow⟩ := args_tm ha hle
        let b : Frame := { (default : Frame) with fn := k }
        have hfr : FR ρ b { tm := bindA args 0 .e, n := fn.ntmps, fn := k, defers := [], rd := none } (args'.toArray ++ Array.replicate (fn.ntmps - args'.toArray.size) undef) [] := ⟨ht, hlow, rfl, rfl, .nil⟩
        obtain ⟨ρ1, tmps1, ds1, w1, x1, r1, fr1, s1⟩ := hcode _ _ _ _ _ _ _ e1 ρ w b _ [] hr hc hfr
        have hx : x ≠ 1 := by rintro rfl; cases e2
        have e3 : leaveF P R fn f1 h1 = some (v, h') := by
          match x, hx, e2 with
          | 0, _, e2 => exact e2
          | 1, hx, _ => exact absurd rfl hx
          | _ + 2, _, e2 => exact e2
        unfold leaveF at e3
        obtain ⟨_, h2, e4, e5⟩ := bind_some e3
        obtain ⟨vs, h3, e6, e7⟩ := bind_some e5
        obtain ⟨rfl, rfl⟩ := pure_some e7
        obtain ⟨ρ2, w2, x2, r2, s2⟩ := hdef _ _ _ _ e4 ρ1 w1 ds1 r1 (hc.ext x1) fr1.ds
        have fr2 := fr1.mono x2.le
        obtain ⟨rfl, v', q1, q2⟩ := results_sound (fn := fn) (fun t => tmp_sound fr2.tm t (fr2.low t)) r2 e6
        refine ⟨ρ2, v', w2, x1.trans x2, r2, q2, .enter k args'.toArray, w, callFunc_enter hf hname hb, fun kind cs hcs => ?_⟩
        rw [frame_enter hf hb] at hcs ⊢
        let bk : Frame := { (default : Frame) with fn := k, kind }
        have hal : Alike b bk := ⟨rfl, rfl⟩
        have q3 := s1 bk hal [] cs hcs
        have hx2 : (x = 0 ∧ Steps P (lone (frm bk (args'.toArray ++ Array.replicate (fn.ntmps - args'.toArray.size) undef) [] [.code c]) cs w) (lone (frm bk tmps1 ds1 []) cs w1)) ∨
            ∃ k', Steps P (lone (frm bk (args'.toArray ++ Array.replicate (fn.ntmps - args'.toArray.size) undef) [] [.code c]) cs w) (lone (frm bk tmps1 ds1 (.code .ret :: k')) cs w1) := by
          match x, hx, q3 with
          | 0, _, q3 => exact .inl ⟨rfl, q3⟩
          | 1, hx, _ => exact absurd rfl hx
          | _ + 2, _, q3 => exact .inr q3
        rcases hx2 with ⟨_, q4⟩ | ⟨k', q4⟩
        · refine ⟨{ frm bk tmps1 ds1 [] with mode := .returning, defers := [] }, (q4.trans (.one (st_leave rfl))).trans (s2 { frm bk tmps1 ds1 [] with mode := .returning } cs rfl), rfl, rfl, rfl, rfl, fn, hf, q1⟩
        · refine ⟨{ frm bk tmps1 ds1 (.code .ret :: k') with mode := .returning, defers := [] }, (q4.trans (.one (st_ret rfl))).trans (s2 { frm bk tmps1 ds1 (.code .ret :: k') with mode := .returning } cs rfl), rfl, rfl, rfl, rfl, fn, hf, q1⟩

theorem callF_sound {K : Known} (hK : KOk P G K) (hcode : SCode P G R) (hdef : SDefers P G R) (hs : SCall P G R) : ∀ f args (h : H) v h', callF P R K f args h = some (v, h') → ∀ ρ w f' args', HR P ρ h w → Ctx P G ρ h → VR ρ f f' → VRs ρ args args' →
    ∃ ρ' v' w', Ext ρ h w ρ' h' w' ∧ HR P ρ' h' w' ∧ VR ρ' v v' ∧ Calling P (inv f' args'.toArray) w v' w' := by
  intro f args h v h' e ρ w f' args' hr hc hf ha
  unfold callF at e
  cases hf with
  | yield l loc hl =>
    simp only at e
    obtain ⟨ρ', v', w', a, b, c, d⟩ := yieldF_sound hcode e hr hc hl ha
    refine ⟨ρ', v', w', a, b, c, d.congr ?_⟩
    simp only [inv, Deferred.ofValue, Sem.run_bind, Sem.run_pure, Result.andThen_ok, invoke]
    simp
  | fn fn a c a' c' hfn hfa hfc =>
    cases fn with
    | func k =>
      simp only [lapp_eq] at e
      have hall := hfa.append (ha.append hfc)
      have hrun : (inv (.func (.func k) a'.toArray c'.toArray) args'.toArray).run P w = (callFunc k (a' ++ (args' ++ c')).toArray).run P w := by
        rw [inv_func]
        congr 2
        simp
      generalize hsum : K.sum k (a ++ (args ++ c)) = os at e
      cases os with
      | some v1 =>
        obtain ⟨rfl, rfl⟩ := pure_some e
        obtain ⟨v', w', x, y, z, q⟩ := hK.sum _ _ _ hsum ρ _ w _ hr hc hall
        exact ⟨ρ, v', w', x, y, z, q.congr hrun⟩
      | none =>
        obtain ⟨ρ', v', w', x, y, z, q⟩ := enterF_sound hK hcode hdef e hr hc hall
        exact ⟨ρ', v', w', x, y, z, q.congr hrun⟩
    | method name =>
      simp only [lapp_eq] at e
      have hall := hfa.append ha
      generalize hl : a ++ args = l at e hall
      generalize hl0 : a' ++ args' = l0 at hall
      cases hall with
      | nil => cases e
      | cons v0 v0' l l' hv hl' =>
        cases v0 with
        | iface t x =>
          simp only at e
          obtain ⟨x', hx', hxx⟩ := hv.iface_inv
          generalize hmk : methodF P t name = mk at e
          cases mk with
          | none => cases e
          | some k =>
            obtain ⟨ρ', v', w', q1, q2, q3, q4⟩ := hs _ _ _ _ _ e ρ w (.func (.func k) #[] #[]) _ hr hc (.fn (.func k) [] [] [] [] (fun _ h => by cases h) .nil .nil) (.cons _ _ _ _ hxx hl')
            refine ⟨ρ', v', w', q1, q2, q3, q4.congr ?_⟩
            rw [inv_func]
            have harr : a'.toArray ++ args'.toArray = (v0' :: l').toArray := by rw [← hl0]; simp
            have hz : (v0' :: l').toArray[0]? = some (.iface t x') := by rw [← hx']; rfl
            simp only [inv, Deferred.ofValue, Sem.run_bind, Sem.run_pure, Result.andThen_ok, invoke, harr, hz]
            rw [callMethod_run hmk]
            congr 2
            simp
        | _ => cases e
    | _ => cases e
  | _ => cases e

/-- a level's parts -/
structure SAll (P : Program) (G : Nat → Option (List V)) (R : Recs) : Prop where
  good : GoodR R
  call : SCall P G R
  ops : SOps P G R
  code : SCode P G R
  defers : SDefers P G R
  draw : SDraw P R
/-- THE EVALUATOR IS SOUND -/
theorem sound {K : Known} (hm : P.follows .mixedOrders = true) (hK : KOk P G K) : ∀ n, SAll P G (evN P K n)
  | 0 => ⟨goodR P K 0, fun _ _ _ _ _ e => by (cases e), fun _ _ _ _ _ _ e => by (cases e), fun _ _ _ _ _ _ _ e => by (cases e), fun _ _ _ _ e => by (cases e), fun all s l f => draw_run K all s 0 l f⟩
  | n + 1 =>
    let ih := sound hm hK n
    ⟨goodR P K (n + 1), callF_sound hK ih.code ih.defers ih.call, fun _ _ _ _ _ _ e _ _ _ _ _ hr hc hf => opsF_sound ih.call ih.ops e hr hc hf,
      fun _ _ _ _ _ _ _ e _ _ _ _ _ hr hc hf => codeF_sound hm ih.good ih.call ih.ops ih.draw ih.code (fun e _ _ _ _ _ hr hc hf => rangeF_sound ih.call e hr hc hf) (fun hlp e _ _ _ _ _ hr hc hf => mapLoopF_sound ih.good ih.ops ih.code hlp e hr hc hf) e hr hc hf,
      fun _ _ _ _ e _ _ _ hr hc hl => defersF_sound ih.call ih.defers e hr hc hl, fun all s l f => draw_run K all s (n + 1) l f⟩
end Go.Ev
/- Calls that are known: a call with plain arguments, run once from nothing, is the same wherever it stands. -/
namespace Go.Ev
open Go
variable {P : Program} {ρ : Rn} {h : H} {w : World}

noncomputable section
/-- the variables' blocks -/
def bsOf (l : List (List V)) : Nat → T B := List.rec (motive := fun _ => Nat → T B) (fun _ => .e) (fun r _ g i => (g (i + 1)).set i (.ro r)) l
def baseH (l : List (List V)) : H := .mk (llen l) 0 0 (bsOf l 0) .e
def gOf (l : List (List V)) : Nat → Option (List V) := fun i => l[i]?

def flatAs (l : List V) : Bool := List.rec (motive := fun _ => Bool) true (fun v _ g => match flatA v with
    | true => g
    | false => false) l
def flat (v : V) : Bool := match v with
  | .tup l => flatAs l
  | v => flatA v
def flats (l : List V) : Bool := List.rec (motive := fun _ => Bool) true (fun v _ g => match flat v with
  | true => g
  | false => false) l
def eqAs (a b : List V) : Bool := List.rec (motive := fun _ => List V → Bool)
  (fun m => match m with | [] => true | _ :: _ => false)
  (fun x _ g m => match m with | [] => false | y :: m => match eqA x y with | true => g m | false => false) a b
def eqR (x y : V) : Bool := match x, y with
  | .tup a, .tup b => eqAs a b
  | .tup _, _ => false
  | x, y => eqA x y
abbrev Ent := Nat × List V × V
abbrev Tab := T (List Ent)
/-- where a call is looked for -/
def keyA (k : Nat) (args : List V) : Nat := match args with
  | .str _ n :: _ => k + 512 * n
  | _ => k
def lookF (k : Nat) (args : List V) (l : List Ent) : Option V := List.rec (motive := fun _ => Option V) none (fun e _ g => match Nat.beq k e.1 with
  | true => match eqAs args e.2.1 with
    | true => some e.2.2
    | false => g
  | false => g) l
def sumT (t : Tab) (k : Nat) (args : List V) : Option V := match t.get (keyA k args) with
  | some l => lookF k args l
  | none => none
def addT (t : Tab) (e : Ent) : Tab := match t.get (keyA e.1 e.2.1) with
  | some l => t.set (keyA e.1 e.2.1) (e :: l)
  | none => t.set (keyA e.1 e.2.1) [e]
def insT (l : List Ent) (t : Tab) : Tab := List.rec (motive := fun _ => Tab) t (fun e _ g => addT g e) l
/-- comes a call to this value? -/
def runOk (P : Program) (K : Known) (n : Nat) (l : List (List V)) (k : Nat) (args : List V) (v : V) : Bool := match (evN P K n).call (.fn (.func k) [] []) args (baseH l) with
  | some x => eqR x.1 v
  | none => false
def okE (P : Program) (K : Known) (n : Nat) (l : List (List V)) (e : Ent) : Bool := match flats e.2.1, flat e.2.2 with
  | true, true => runOk P K n l e.1 e.2.1 e.2.2
  | _, _ => false
def okL (P : Program) (K : Known) (n : Nat) (l : List (List V)) (es : List Ent) : Bool := List.rec (motive := fun _ => Bool) true (fun e _ g => match okE P K n l e with
  | true => g
  | false => false) es
end

theorem bsOf_cons (r : List V) (l : List (List V)) (i : Nat) : bsOf (r :: l) i = (bsOf l (i + 1)).set i (.ro r) := rfl
theorem bsOf_get : ∀ (l : List (List V)) (i j : Nat), (bsOf l i).get j = if i ≤ j then (l[j - i]?).map .ro else none
  | [], i, j => by
    show (T.e : T B).get j = _
    simp [T.get_e]
  | r :: l, i, j => by
    rw [bsOf_cons]
    by_cases e : j = i
    · subst e; rw [T.get_set_same]; simp
    · rw [T.get_set_ne _ _ e, bsOf_get l (i + 1) j]
      by_cases h1 : i ≤ j
      · rw [if_pos (by omega), if_pos h1]
        have : j - i = (j - (i + 1)) + 1 := by omega
        rw [this]; simp
      · rw [if_neg (by omega), if_neg h1]
theorem base_get (l : List (List V)) (j : Nat) : (baseH l).bs.get j = (l[j]?).map .ro := by
  show (bsOf l 0).get j = _
  rw [bsOf_get]; simp

theorem flatL_cons (v : V) (l : List V) : flatL (v :: l) = (match flat1 v with | true => flatL l | false => false) := rfl
theorem flatL_all : ∀ {l : List V}, flatL l = true → ∀ v ∈ l, flat1 v = true
  | [], _, v, hv => by cases hv
  | a :: l, h, v, hv => by
    rw [flatL_cons] at h
    cases ha : flat1 a with
    | false => rw [ha] at h; cases h
    | true =>
      rw [ha] at h
      rcases List.mem_cons.1 hv with rfl | hv
      · exact ha
      · exact flatL_all h v hv
theorem VR.flat1 {ρ' : Rn} {v : V} {v' : Value} (h : VR ρ v v') (hf : Ev.flat1 v = true) : VR ρ' v v' := by
  cases h <;> first | (cases hf; done) | constructor
  all_goals assumption
theorem VRs.flatAll {ρ' : Rn} : ∀ {l : List V} {l' : List Value}, VRs ρ l l' → (∀ v ∈ l, ∀ v', VR ρ v v' → VR ρ' v v') → VRs ρ' l l'
  | _, _, .nil, _ => .nil
  | _, _, .cons v v' l l' h hs, hf => .cons _ _ _ _ (hf v (List.mem_cons_self ..) v' h) (VRs.flatAll hs fun x hx => hf x (List.mem_cons_of_mem _ hx))
theorem VR.flatA {ρ' : Rn} {v : V} {v' : Value} (h : VR ρ v v') (hf : Ev.flatA v = true) : VR ρ' v v' := by
  cases h with
  | agg l l' hl h1 => exact .agg _ _ (hl.flatAll fun x hx x' hxx => hxx.flat1 (flatL_all hf x hx)) h1
  | bool b => exact .bool b
  | int k n => exact .int k n
  | str l n s a b => exact .str l n s a b
  | nilp => exact .nilp
  | nils => exact .nils
  | nilm => exact .nilm
  | nilf => exact .nilf
  | nili => exact .nili
  | rng k lo hi n h1 h2 => exact .rng k lo hi n h1 h2
  | _ => cases hf
theorem flatAs_cons (v : V) (l : List V) : flatAs (v :: l) = (match Ev.flatA v with | true => flatAs l | false => false) := rfl
theorem flatAs_all : ∀ {l : List V}, flatAs l = true → ∀ v ∈ l, Ev.flatA v = true
  | [], _, v, hv => by cases hv
  | a :: l, h, v, hv => by
    rw [flatAs_cons] at h
    cases ha : Ev.flatA a with
    | false => rw [ha] at h; cases h
    | true =>
      rw [ha] at h
      rcases List.mem_cons.1 hv with rfl | hv
      · exact ha
      · exact flatAs_all h v hv
theorem VR.flat {ρ' : Rn} {v : V} {v' : Value} (h : VR ρ v v') (hf : Ev.flat v = true) : VR ρ' v v' := by
  cases h with
  | tup l l' hl => exact .tup _ _ (hl.flatAll fun x hx x' hxx => hxx.flatA (flatAs_all hf x hx))
  | agg l l' hl h1 => exact (VR.agg l l' hl h1).flatA hf
  | bool b => exact .bool b
  | int k n => exact .int k n
  | str l n s a b => exact .str l n s a b
  | nilp => exact .nilp
  | nils => exact .nils
  | nilm => exact .nilm
  | nilf => exact .nilf
  | nili => exact .nili
  | rng k lo hi n h1 h2 => exact .rng k lo hi n h1 h2
  | _ => cases hf
theorem flats_cons (v : V) (l : List V) : flats (v :: l) = (match Ev.flat v with | true => flats l | false => false) := rfl
theorem flats_all : ∀ {l : List V}, flats l = true → ∀ v ∈ l, Ev.flat v = true
  | [], _, v, hv => by cases hv
  | a :: l, h, v, hv => by
    rw [flats_cons] at h
    cases ha : Ev.flat a with
    | false => rw [ha] at h; cases h
    | true =>
      rw [ha] at h
      rcases List.mem_cons.1 hv with rfl | hv
      · exact ha
      · exact flats_all h v hv
theorem VRs.flats {ρ' : Rn} {l : List V} {l' : List Value} (h : VRs ρ l l') (hf : Ev.flats l = true) : VRs ρ' l l' := h.flatAll fun v hv _ hvv => hvv.flat (flats_all hf v hv)

theorem eqL_eq : ∀ {a b : List V}, eqL a b = true → a = b
  | [], [], _ => rfl
  | [], _ :: _, h => by cases h
  | _ :: _, [], h => by cases h
  | x :: a, y :: b, h => by
    change (match eq1 x y with | true => eqL a b | false => false) = true at h
    cases hq : eq1 x y with
    | false => rw [hq] at h; cases h
    | true => rw [hq] at h; rw [eq1_eq hq, eqL_eq h]
theorem eqA_eq {x y : V} (h : eqA x y = true) : x = y := by
  unfold eqA at h
  split at h
  · rw [eqL_eq h]
  · cases h
  · exact eq1_eq h
theorem eqAs_eq : ∀ {a b : List V}, eqAs a b = true → a = b
  | [], [], _ => rfl
  | [], _ :: _, h => by cases h
  | _ :: _, [], h => by cases h
  | x :: a, y :: b, h => by
    change (match eqA x y with | true => eqAs a b | false => false) = true at h
    cases hq : eqA x y with
    | false => rw [hq] at h; cases h
    | true => rw [hq] at h; rw [eqA_eq hq, eqAs_eq h]
theorem eqR_eq {x y : V} (h : eqR x y = true) : x = y := by
  unfold eqR at h
  split at h
  · rw [eqAs_eq h]
  · cases h
  · exact eqA_eq h

/-- a call that is known -/
def FactOk (P : Program) (G : Nat → Option (List V)) (k : Nat) (l : List V) (v : V) : Prop :=
  ∀ ρ (h : H) w l', HR P ρ h w → Ctx P G ρ h → VRs ρ l l' → ∃ v' w', Ext ρ h w ρ h w' ∧ HR P ρ h w' ∧ VR ρ v v' ∧ Calling P (callFunc k l'.toArray) w v' w'
def AllF (P : Program) (G : Nat → Option (List V)) (l : List Ent) : Prop := ∀ e ∈ l, FactOk P G e.1 e.2.1 e.2.2
structure TabOk (P : Program) (G : Nat → Option (List V)) (t : Tab) : Prop where
  ok : ∀ key l, t.get key = some l → AllF P G l
theorem TabOk.e {G : Nat → Option (List V)} : TabOk P G .e := ⟨fun _ _ h => by cases h⟩
theorem TabOk.add {G : Nat → Option (List V)} {t : Tab} (ht : TabOk P G t) {e : Ent} (he : FactOk P G e.1 e.2.1 e.2.2) : TabOk P G (addT t e) := by
  refine ⟨fun key l h => ?_⟩
  unfold addT at h
  generalize hq : t.get (keyA e.1 e.2.1) = q at h
  cases q with
  | none =>
    simp only at h
    by_cases hk : key = keyA e.1 e.2.1
    · subst hk
      rw [T.get_set_same] at h
      injection h with h; subst h
      intro x hx
      rcases List.mem_cons.1 hx with rfl | hx
      · exact he
      · cases hx
    · rw [T.get_set_ne _ _ hk] at h
      exact ht.ok key l h
  | some l0 =>
    simp only at h
    by_cases hk : key = keyA e.1 e.2.1
    · subst hk
      rw [T.get_set_same] at h
      injection h with h; subst h
      intro x hx
      rcases List.mem_cons.1 hx with rfl | hx
      · exact he
      · exact ht.ok _ _ hq x hx
    · rw [T.get_set_ne _ _ hk] at h
      exact ht.ok key l h
theorem insT_cons (e : Ent) (l : List Ent) (t : Tab) : insT (e :: l) t = addT (insT l t) e := rfl
theorem TabOk.ins {G : Nat → Option (List V)} {t : Tab} (ht : TabOk P G t) : ∀ {l : List Ent}, AllF P G l → TabOk P G (insT l t)
  | [], _ => ht
  | e :: l, h => by
    rw [insT_cons]
    exact (TabOk.ins ht (l := l) fun x hx => h x (List.mem_cons_of_mem _ hx)).add (h e (List.mem_cons_self ..))
theorem lookF_cons (k : Nat) (args : List V) (e : Ent) (l : List Ent) : lookF k args (e :: l) = (match Nat.beq k e.1 with
  | true => match eqAs args e.2.1 with
    | true => some e.2.2
    | false => lookF k args l
  | false => lookF k args l) := rfl
theorem lookF_ok {G : Nat → Option (List V)} {k : Nat} {args : List V} {v : V} : ∀ {l : List Ent}, AllF P G l → lookF k args l = some v → FactOk P G k args v
  | [], _, h => by cases h
  | e :: l, ha, h => by
    rw [lookF_cons] at h
    have tl := fun (q : lookF k args l = some v) => lookF_ok (fun x hx => ha x (List.mem_cons_of_mem _ hx)) q
    cases hk : Nat.beq k e.1 with
    | false => rw [hk] at h; exact tl h
    | true =>
      rw [hk] at h
      cases hq : eqAs args e.2.1 with
      | false => rw [hq] at h; exact tl h
      | true =>
        rw [hq] at h
        injection h with h; subst h
        rw [eqAs_eq hq, beq_nat.1 hk]
        exact ha e (List.mem_cons_self ..)
theorem sumT_ok {G : Nat → Option (List V)} {t : Tab} (ht : TabOk P G t) {k : Nat} {args : List V} {v : V} (h : sumT t k args = some v) : FactOk P G k args v := by
  unfold sumT at h
  generalize hq : t.get (keyA k args) = q at h
  cases q with
  | none => cases h
  | some x => exact lookF_ok (ht.ok _ _ hq) h

/-- from a heap to the variables' alone -/
theorem HR.base {l : List (List V)} (hl : l.length = P.globals.size) (hfl : ∀ r ∈ l, flatL r = true) (hr : HR P ρ h w) (hc : Ctx P (gOf l) ρ h) : HR P (fun i => if i < l.length then ρ i else none) (baseH l) w := by
  have hg : ∀ i, i < l.length → ∃ tot, ρ i = some ⟨i, 0, tot⟩ := fun i hi => hc.gl i (by omega)
  have nx : (baseH l).next = l.length := llen_eq l
  have get : ∀ {i b}, (baseH l).bs.get i = some b → i < l.length ∧ ∃ r, l[i]? = some r ∧ b = .ro r := by
    intro i b hb
    rw [base_get] at hb
    cases hq : l[i]? with
    | none => rw [hq] at hb; cases hb
    | some r =>
      rw [hq] at hb
      injection hb with hb
      refine ⟨?_, r, rfl, hb.symm⟩
      rcases Nat.lt_or_ge i l.length with q | q
      · exact q
      · rw [List.getElem?_eq_none q] at hq; cases hq
  refine ⟨fun i => ?_, ?_, ?_, ?_, ?_, ?_, ?_, ?_, ?_⟩
  · constructor
    · rintro ⟨loc, h1⟩
      by_cases hi : i < l.length
      · exact ⟨.ro l[i], by rw [base_get, List.getElem?_eq_getElem hi]; rfl⟩
      · rw [if_neg hi] at h1; cases h1
    · rintro ⟨b, hb⟩
      obtain ⟨hi, _⟩ := get hb
      obtain ⟨tot, e⟩ := hg i hi
      exact ⟨_, by rw [if_pos hi]; exact e⟩
  · intro i b hb; rw [nx]; exact (get hb).1
  · intro i loc hi
    split at hi
    · exact hr.inb i loc hi
    · cases hi
  · intro i b loc hb _ hρ
    obtain ⟨hi, r, h1, rfl⟩ := get hb
    rw [if_pos hi] at hρ
    have hbs := hc.ro i r h1
    obtain ⟨q1, q3⟩ := hr.blk i _ loc hbs trivial hρ
    refine ⟨q1, q3.imp id ?_⟩
    rintro ⟨q2, cs, e, fz, a, b⟩
    refine ⟨q2, cs, e, fz, a, fun j v hj => ?_⟩
    obtain ⟨v', c, d⟩ := b j v hj
    exact ⟨v', c, d.flat1 (flatL_all (hfl r (List.mem_of_getElem? h1)) v (List.mem_of_getElem? hj))⟩
  · intro i j b c li lj hb hc' _ _ hi hj e
    obtain ⟨h1, _⟩ := get hb
    obtain ⟨h2, _⟩ := get hc'
    rw [if_pos h1] at hi
    rw [if_pos h2] at hj
    obtain ⟨t1, e1⟩ := hg i h1
    obtain ⟨t2, e2⟩ := hg j h2
    rw [e1] at hi; injection hi with hi; subst hi
    rw [e2] at hj; injection hj with hj; subst hj
    exact .inl e
  · intro k a l' fz b c la ll hk
    cases hk
  · intro i b hb
    obtain ⟨_, r, _, rfl⟩ := get hb
    exact Nat.zero_le _
  · exact Nat.zero_le _
  · intro i c e k loc hi _
    obtain ⟨_, r, _, q⟩ := get hi
    cases q

/-- A CALL THAT WAS RUN FROM THE VARIABLES ALONE -/
theorem fact_of_run {K : Known} (hm : P.follows .mixedOrders = true) {l : List (List V)} (hl : l.length = P.globals.size) (hfl : ∀ r ∈ l, flatL r = true) (hK : KOk P (gOf l) K) {n k : Nat} {args : List V} {v : V}
    (ha : flats args = true) (hv : Ev.flat v = true) (e : runOk P K n l k args v = true) : FactOk P (gOf l) k args v := by
  intro ρ h w l' hr hc hvs
  unfold runOk at e
  generalize hq : (evN P K n).call (.fn (.func k) [] []) args (baseH l) = q at e
  cases q with
  | none => cases e
  | some x =>
    obtain ⟨v1, h1⟩ := x
    have ev : v1 = v := eqR_eq e
    subst ev
    have hr0 := hr.base hl hfl hc
    have hc0 : Ctx P (gOf l) (fun i => if i < l.length then ρ i else none) (baseH l) := by
      refine ⟨fun g hg => ?_, fun g r hg => ?_⟩
      · obtain ⟨tot, q⟩ := hc.gl g hg
        exact ⟨tot, by rw [if_pos (by omega)]; exact q⟩
      · have hg' : l[g]? = some r := hg
        rw [base_get, hg']; rfl
    obtain ⟨ρ1, v', w1, x1, r1, vr, call⟩ := (sound hm hK n).call _ _ _ _ _ hq _ w (.func (.func k) #[] #[]) l' hr0 hc0 (.fn (.func k) [] [] [] [] (fun _ h => by cases h) .nil .nil) (hvs.flats ha)
    have keep : ∀ c, c < w.heap.size → w1.heap[c]? = w.heap[c]? := fun c hcs => x1.same c hcs fun i loc hi _ => by
      by_cases hil : i < l.length
      · exact ⟨l[i], by rw [base_get, List.getElem?_eq_getElem hil]; rfl⟩
      · rw [if_neg hil] at hi; cases hi
    refine ⟨v', w1, ⟨Rn.le_refl ρ, x1.size, fun c hcs _ => keep c hcs, fun _ _ q => .inl q, fun _ _ q => q, x1.os, x1.output, x1.tape⟩, ⟨hr.dom, hr.lt, fun i loc hi => Nat.lt_of_lt_of_le (hr.inb i loc hi) x1.size, fun i b loc hb hlv hρ => ?_, hr.apart, hr.chain, hr.cls, hr.gs, fun i c e k loc hi hρ => by rw [keep _ (hr.inb i loc hρ)]; exact hr.cell i c e k loc hi hρ⟩, vr.flat hv, call.congr ?_⟩
    · exact (hr.blk i b loc hb hlv hρ).mono P (Rn.le_refl ρ) (keep _ (hr.inb i loc hρ)) (fun _ _ _ a l _ hk => ⟨a, l, hk⟩)
    · rw [inv_func]; congr 2; simp

theorem fact_of_ok {K : Known} (hm : P.follows .mixedOrders = true) {l : List (List V)} (hl : l.length = P.globals.size) (hfl : ∀ r ∈ l, flatL r = true) (hK : KOk P (gOf l) K) {n : Nat} {e : Ent} (h : okE P K n l e = true) : FactOk P (gOf l) e.1 e.2.1 e.2.2 := by
  unfold okE at h
  generalize h1 : flats e.2.1 = a at h
  generalize h2 : Ev.flat e.2.2 = b at h
  match a, b, h1, h2, h with
  | true, true, h1, h2, h => exact fact_of_run hm hl hfl hK h1 h2 h
theorem okL_cons (K : Known) (n : Nat) (l : List (List V)) (e : Ent) (es : List Ent) : okL P K n l (e :: es) = (match okE P K n l e with | true => okL P K n l es | false => false) := rfl
/-- calls that were run, all of a list -/
theorem facts_of_ok {K : Known} (hm : P.follows .mixedOrders = true) {l : List (List V)} (hl : l.length = P.globals.size) (hfl : ∀ r ∈ l, flatL r = true) (hK : KOk P (gOf l) K) {n : Nat} : ∀ {es : List Ent}, okL P K n l es = true → AllF P (gOf l) es
  | [], _ => fun _ hx => by cases hx
  | e :: es, h => by
    rw [okL_cons] at h
    cases hq : okE P K n l e with
    | false => rw [hq] at h; cases h
    | true =>
      rw [hq] at h
      intro x hx
      rcases List.mem_cons.1 hx with rfl | hx
      · exact fact_of_ok hm hl hfl hK hq
      · exact facts_of_ok hm hl hfl hK h x hx
end Go.Ev
/- Two functions without a body. -/
namespace Go.Ev
open Go
variable {P : Program} {ρ : Rn} {w : World}

theorem extern_run {k : Nat} {fn : Func} {e : Array Value → Sem Value} {args : Array Value} (hf : P.funcs[k]? = some fn) (hname : (fn.name == "runtime.NumGoroutine") = false) (hb : fn.body = none) (hn : Extern.findNext fn = none)
    (he : Extern.find fn = some e) : (callFunc k args).run P w = ((e args).run P w).andThen fun v w => .ok (.value v) w := by
  simp only [callFunc, Sem.run_bind, program, Sem.run, Result.andThen_ok, hf, hname, hb, Option.isNone_none, Bool.false_eq_true, if_false, if_true, hn, he, mark]
  rfl

theorem findByte_cons (c a : Nat) (l : List Nat) (i : Nat) : findByte c (a :: l) i = (match Nat.beq a c with | true => .ofNat i | false => findByte c l (i + 1)) := rfl
theorem findByte_eq (c : UInt8) : ∀ (l : List UInt8) (i : Nat), findByte c.toNat (l.map (·.toNat)) i = (match l.findIdx? (· == c) with | some j => Int.ofNat (i + j) | none => .negSucc 0)
  | [], _ => rfl
  | a :: l, i => by
    rw [List.map_cons, findByte_cons, List.findIdx?_cons]
    by_cases h : a = c
    · subst h
      rw [beq_nat.2 rfl]; simp
    · have h2 : a.toNat ≠ c.toNat := fun e => h (UInt8.toNat_inj.1 e)
      rw [beq_nat_false.2 h2]
      have h3 : (a == c) = false := by simpa using h
      simp only [h3, Bool.false_eq_true, if_false]
      rw [findByte_eq c l (i + 1)]
      cases l.findIdx? (· == c) with
      | none => rfl
      | some j => show Int.ofNat (i + 1 + j) = Int.ofNat (i + (j + 1)); congr 1; omega
theorem range_find {α : Type} (p : α → Bool) : ∀ (l : List α) (n : Nat) (q : Nat → Bool), (∀ i (h : i < l.length), q (n + i) = p l[i]) → (List.range' n l.length).find? q = (l.findIdx? p).map (n + ·)
  | [], _, _, _ => rfl
  | a :: l, n, q, hq => by
    rw [List.length_cons, List.range'_succ, List.find?_cons, List.findIdx?_cons]
    have h0 := hq 0 (by simp)
    simp only [Nat.add_zero, List.getElem_cons_zero] at h0
    rw [h0]
    cases hp : p a with
    | true => simp
    | false =>
      simp only [Bool.false_eq_true, if_false]
      rw [range_find p l (n + 1) q (fun i hi => by have := hq (i + 1) (by simpa using hi); simpa [Nat.add_assoc, Nat.add_comm 1 i] using this)]
      cases l.findIdx? p with
      | none => rfl
      | some j => simp; omega

theorem indexByte_sound {l : List V} {l' : List Value} {v : V} {h h' : H} (e : extV 1 l h = some (v, h')) (hl : VRs ρ l l') : h' = h ∧ ∃ v', (Extern.BytealgIndexByte.indexByte l'.toArray).run P w = .ok v' w ∧ VR ρ v v' := by
  match l, hl, e with
  | [.str s n, .int .u8 (.ofNat c)], .cons _ _ _ _ hs (.cons _ _ _ _ hc .nil), e =>
    obtain ⟨s', rfl, hs', _⟩ := hs.str_inv
    have hc' := hc.int_inv
    subst hc'
    have e2 : (match Nat.blt c 256 with
      | true => M.pure (V.int .i64 (findByte c s 0))
      | false => (M.fail : M V)) h = some (v, h') := e
    cases hb : Nat.blt c 256 with
    | false => rw [hb] at e2; cases e2
    | true =>
      rw [hb] at e2
      obtain ⟨rfl, rfl⟩ := pure_some e2
      refine ⟨rfl, ?_⟩
      have hlt := blt_nat.1 hb
      have hcn : c.toUInt8.toNat = c := by simp [hlt]
      have hfind : (List.range s'.size).find? (fun i => s'[i]! == c.toUInt8) = s'.data.toList.findIdx? (· == c.toUInt8) := by
        have hsz : s'.size = s'.data.toList.length := by simp
        rw [hsz, List.range_eq_range', range_find (· == c.toUInt8) s'.data.toList 0 _ (fun i hi => ?_)]
        · cases s'.data.toList.findIdx? (· == c.toUInt8) <;> simp
        · have hi' : i < s'.size := by rw [hsz]; exact hi
          simp only [Nat.zero_add]
          congr 1
          rw [getElem!_pos s' i hi']
          simp
          rfl
      have hfb := findByte_eq c.toUInt8 s'.data.toList 0
      rw [hcn] at hfb
      subst hs'
      have hof : ofBytes s' = s'.data.toList.map (·.toNat) := rfl
      rw [hof, hfb]
      refine ⟨match s'.data.toList.findIdx? (· == c.toUInt8) with | some i => goInt i | none => goInt (-1), ?_, ?_⟩
      · have h1 : (Extern.Bytes.bytesOf (.string s')).run P w = .ok s' w := rfl
        have h2 : (Extern.Bytes.asByte (.int .u8 (.ofNat c))).run P w = .ok c.toUInt8 w := rfl
        refine (run_of_bind (a := Extern.Bytes.bytesOf (.string s')) rfl).trans ?_
        rw [h1]
        simp only [Result.andThen_ok]
        refine (run_of_bind (a := Extern.Bytes.asByte (.int .u8 (.ofNat c))) rfl).trans ?_
        rw [h2]
        simp only [Result.andThen_ok, hfind]
        cases s'.data.toList.findIdx? (· == c.toUInt8) <;> rfl
      · cases s'.data.toList.findIdx? (· == c.toUInt8) with
        | none => exact .int _ _
        | some j => simp only [Nat.zero_add]; exact .int _ _
theorem noEscape_sound {l : List V} {l' : List Value} {v : V} {h h' : H} (e : extV 2 l h = some (v, h')) (hl : VRs ρ l l') : h' = h ∧ ∃ v', (Extern.AbiNoEscape.same l'.toArray).run P w = .ok v' w ∧ VR ρ v v' := by
  match l, hl, e with
  | [x], .cons _ _ _ _ hx .nil, e =>
    obtain ⟨rfl, rfl⟩ := pure_some e
    exact ⟨rfl, _, rfl, hx⟩
end Go.Ev
/- A known call, at a world in which the variables hold what was taken. -/
namespace Go.Ev
open Go Go.RowKit
variable {P : Program} {ρ : Rn} {w : World}

theorem Calling.calls {k : Nat} {fn : Func} {c : Code} {args : Array Value} {v : Value} {w' : World} (h : Calling P (callFunc k args) w v w') (hf : P.funcs[k]? = some fn) (hn : (fn.name == "runtime.NumGoroutine") = false) (hb : fn.body = some c) :
    Calls P k args w fun e w2 => e = .returned v ∧ w2 = w' := by
  intro cs
  obtain ⟨nx, w1, h1, h2⟩ := h
  rw [callFunc_enter hf hn hb] at h1
  injection h1 with h1 h3
  subst h1; subst h3
  obtain ⟨fr, hs, hk, hfn, hm, hd, hres⟩ := h2 .normal cs (Calm.normal cs)
  exact ⟨.returned v, w', fr, ⟨rfl, rfl⟩, hs, hfn, hm, hd, hk, hres⟩

/-- the variables' blocks in a world -/
def BaseW (l : List (List V)) (w : World) : Prop := ∀ (i : Nat) (r : List V), l[i]? = some r → i < w.heap.size ∧ allOne r = true ∧ (r = [] ∨ ∃ cs e fz, w.heap[i]? = some (.cells cs e fz) ∧ ∀ (j : Nat) (v : V), r[j]? = some v → ∃ v', cs[j]? = some v' ∧ VR (fun _ => none) v v')
def rho0 (l : List (List V)) : Rn := fun i => if i < l.length then some ⟨i, 0, 0⟩ else none

theorem BaseW.hr {l : List (List V)} (hfl : ∀ r ∈ l, flatL r = true) (hw : BaseW l w) : HR P (rho0 l) (baseH l) w := by
  have nx : (baseH l).next = l.length := llen_eq l
  have get : ∀ {i b}, (baseH l).bs.get i = some b → i < l.length ∧ ∃ r, l[i]? = some r ∧ b = .ro r := by
    intro i b hb
    rw [base_get] at hb
    cases hq : l[i]? with
    | none => rw [hq] at hb; cases hb
    | some r =>
      rw [hq] at hb
      injection hb with hb
      refine ⟨?_, r, rfl, hb.symm⟩
      rcases Nat.lt_or_ge i l.length with q | q
      · exact q
      · rw [List.getElem?_eq_none q] at hq; cases hq
  have rh : ∀ {i loc}, rho0 l i = some loc → i < l.length ∧ loc = ⟨i, 0, 0⟩ := by
    intro i loc h
    unfold rho0 at h
    split at h
    · injection h with h; exact ⟨‹_›, h.symm⟩
    · cases h
  refine ⟨fun i => ?_, ?_, ?_, ?_, ?_, ?_, ?_, ?_, ?_⟩
  · constructor
    · rintro ⟨loc, h1⟩
      have hi := (rh h1).1
      exact ⟨.ro l[i], by rw [base_get, List.getElem?_eq_getElem hi]; rfl⟩
    · rintro ⟨b, hb⟩
      have hi := (get hb).1
      exact ⟨_, by unfold rho0; rw [if_pos hi]⟩
  · intro i b hb; rw [nx]; exact (get hb).1
  · intro i loc hi
    obtain ⟨h1, rfl⟩ := rh hi
    exact (hw i l[i] (List.getElem?_eq_getElem h1)).1
  · intro i b loc hb _ hρ
    obtain ⟨hi, r, h1, rfl⟩ := get hb
    obtain ⟨_, rfl⟩ := rh hρ
    obtain ⟨_, q2, q3⟩ := hw i r h1
    refine ⟨q2, q3.imp id ?_⟩
    rintro ⟨cs, e, fz, a, b⟩
    refine ⟨rfl, cs, e, fz, a, fun j v hj => ?_⟩
    obtain ⟨v', c, d⟩ := b j v hj
    exact ⟨v', by rw [Nat.zero_add]; exact c, d.flat1 (flatL_all (hfl r (List.mem_of_getElem? h1)) v (List.mem_of_getElem? hj))⟩
  · intro i j b c li lj hb hc' _ _ hi hj e
    obtain ⟨_, rfl⟩ := rh hi
    obtain ⟨_, rfl⟩ := rh hj
    exact .inl e
  · intro k a l' fz b c la ll hk
    cases hk
  · intro i b hb
    obtain ⟨_, r, _, rfl⟩ := get hb
    exact Nat.zero_le _
  · exact Nat.zero_le _
  · intro i c e k loc hi _
    obtain ⟨_, r, _, q⟩ := get hi
    cases q

/-- A CALL OF THE PROGRAM -/
theorem calls_of_fact {l : List (List V)} (hl : l.length = P.globals.size) (hfl : ∀ r ∈ l, flatL r = true) {k : Nat} {fn : Func} {c : Code} (hf : P.funcs[k]? = some fn) (hn : (fn.name == "runtime.NumGoroutine") = false) (hb : fn.body = some c)
    {args : List V} {v : V} (h : FactOk P (gOf l) k args v) (hw : BaseW l w) {args' : List Value} (ha : VRs (fun _ => none) args args') (hfa : flats args = true) :
    Calls P k args'.toArray w fun e w' => ∃ v', e = .returned v' ∧ VR (rho0 l) v v' ∧ Below w.heap.size w w' := by
  have hr : HR P (rho0 l) (baseH l) w := hw.hr hfl
  have hc : Ctx P (gOf l) (rho0 l) (baseH l) := by
    refine ⟨fun g hg => ⟨0, by unfold rho0; rw [if_pos (by omega)]⟩, fun g r hg => ?_⟩
    have hg' : l[g]? = some r := hg
    rw [base_get, hg']; rfl
  obtain ⟨v', w', x, _, z, call⟩ := h (rho0 l) (baseH l) w args' hr hc (ha.flats hfa)
  refine (call.calls hf hn hb).mono ?_
  rintro e w2 ⟨rfl, rfl⟩
  refine ⟨v', rfl, z, x.os, x.tape, x.output, x.size, fun k hk => x.same k hk fun i loc hi _ => ?_⟩
  have hil : i < l.length := by
    unfold rho0 at hi
    split at hi
    · assumption
    · cases hi
  exact ⟨l[i], by rw [base_get, List.getElem?_eq_getElem hil]; rfl⟩
end Go.Ev
