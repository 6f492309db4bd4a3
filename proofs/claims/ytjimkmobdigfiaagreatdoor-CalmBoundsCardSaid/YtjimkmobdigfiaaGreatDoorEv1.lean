/- THE EVALUATOR, part 2: a run of it, asked of the kernel, shows what the program comes to. Nothing of a program stands here. -/
import Derived.Lib.Strings
import Derived.Laws.StructEq
import Derived.Laws.Cells
import Derived.Laws.BytesString
import Derived.Test.YtjimkmobdigfiaaGreatDoorEv0
set_option linter.unusedSimpArgs false
set_option linter.unusedVariables false
/- The small operations are the model's: numbers, texts, comparisons. -/
namespace Go.Ev
open Go

section runs
variable {P : Program} {w : World}
theorem r_und {t : TypeId} {d : TypeDesc} (h : P.underlying t = some d) : (underlying t).run P w = .ok d w := by simp [underlying, h]
theorem r_info {t : TypeId} {i : TypeInfo} (h : P.info? t = some i) : (typeInfo t).run P w = .ok i w := by simp [typeInfo, h]
theorem szOf_info {t n : Nat} (h : szOf P t = some n) : ∃ i, P.info? t = some i ∧ i.size = n := by
  unfold szOf at h; split at h
  · rename_i i hi; injection h with h; exact ⟨i, hi, h⟩
  · cases h
theorem szOf_cells {t n : Nat} (h : szOf P t = some n) : P.cellsOf t = n := by
  obtain ⟨i, hi, rfl⟩ := szOf_info h; simp [Program.cellsOf, hi]
theorem r_size {t n : Nat} (h : szOf P t = some n) : (sizeOf t).run P w = .ok n w := by
  obtain ⟨i, hi, rfl⟩ := szOf_info h; simp [sizeOf, r_info hi]
theorem r_isAgg {t : Nat} {b : Bool} (h : isAggT P t = some b) : (isAgg t).run P w = .ok b w := by
  unfold isAggT at h
  split at h
  · rename_i fs hu; injection h with h; subst h; simp [isAgg, r_und hu]
  · rename_i n e hu; injection h with h; subst h; simp [isAgg, r_und hu]
  · rename_i d hn1 hn2 hu; injection h with h; subst h
    simp only [isAgg, Sem.run_bind, r_und hu, Result.andThen_ok]
    cases d <;> first | rfl | exact absurd rfl (hn1 _) | exact absurd rfl (hn2 _ _)
  · cases h
end runs

theorem VR.str_inv {ρ : Rn} {l : List Nat} {n : Nat} {v : Value} (h : VR ρ (.str l n) v) : ∃ s, v = .string s ∧ ofBytes s = l ∧ l.length = n := by
  cases h with | str _ _ s hl hn => exact ⟨s, rfl, hl, hn⟩
theorem ofBytes_size (s : ByteArray) : (ofBytes s).length = s.size := by
  rw [ofBytes, List.length_map]; rfl
theorem ofBytes_get (s : ByteArray) (i : Nat) : (ofBytes s)[i]? = (s.data.toList[i]?).map (·.toNat) := by simp [ofBytes]
theorem toNat_inj {a b : UInt8} (h : a.toNat = b.toNat) : a = b := UInt8.toNat_inj.1 h
theorem map_toNat_inj : ∀ {a b : List UInt8}, a.map (·.toNat) = b.map (·.toNat) → a = b := by
  intro a
  induction a with
  | nil => intro b h; cases b with | nil => rfl | cons => simp at h
  | cons x a ih => intro b h; cases b with
    | nil => simp at h
    | cons y b => simp at h; rw [ih h.2, UInt8.toNat_inj.1 h.1]

theorem ieq_eq (a b : Int) : ieq a b = (a == b) := by
  have : ∀ (c : Bool) (p : Prop) [Decidable p], (c = true ↔ p) → c = decide p := fun c p _ h => by cases c <;> simp_all
  show ieq a b = decide (a = b)
  apply this
  cases a <;> cases b <;> simp [ieq] <;> omega
theorem ile_eq (a b : Int) : ile a b = decide (a ≤ b) := by
  have : ∀ (c : Bool) (p : Prop) [Decidable p], (c = true ↔ p) → c = decide p := fun c p _ h => by cases c <;> simp_all
  apply this
  cases a <;> cases b <;> simp [ile] <;> omega
theorem bnot_eq (b : Bool) : bnot b = !b := by cases b <;> rfl
theorem beq_eq (a b : Bool) : beq a b = (a == b) := by cases a <;> cases b <;> rfl
theorem sameK_eq {j k : IntKind} (h : sameK j k = true) : j = k := by cases j <;> cases k <;> first | rfl | (simp [sameK] at h)
theorem toU_eq (k : IntKind) (n : Int) : toU k n = (BitVec.ofInt k.bits n).toNat := by
  simp [toU, BitVec.toNat_ofInt]

theorem leq_iff : ∀ (a b : List Nat), leq a b = true ↔ a = b := by
  intro a
  induction a with
  | nil => intro b; cases b with
    | nil => simp [leq]
    | cons y b => simp [leq]
  | cons x a ih => intro b; cases b with
    | nil => simp [leq]
    | cons y b =>
      show (match Nat.beq x y with | true => leq a b | false => false) = true ↔ _
      cases h : Nat.beq x y with
      | true => rw [beq_nat] at h; subst h; simp [ih b]
      | false => rw [beq_nat_false] at h; simp [h]
theorem leq_bytes (s t : ByteArray) : leq (ofBytes s) (ofBytes t) = (s.toList == t.toList) := by
  rw [ByteArray.toList_eq, ByteArray.toList_eq]
  cases h : leq (ofBytes s) (ofBytes t) with
  | true => have := map_toNat_inj ((leq_iff _ _).1 h); rw [this]; simp
  | false =>
    cases h2 : (s.data.toList == t.data.toList) with
    | false => rfl
    | true =>
      have e : s.data.toList = t.data.toList := by simpa using h2
      rw [(leq_iff _ _).2 (by simp [ofBytes, e])] at h; cases h
theorem llt_bytes : ∀ (a b : List UInt8), llt (a.map (·.toNat)) (b.map (·.toNat)) = Op.bytesLess a b := by
  intro a
  induction a with
  | nil => intro b; cases b <;> rfl
  | cons x a ih => intro b; cases b with
    | nil => rfl
    | cons y b =>
      show (match Nat.beq x.toNat y.toNat with | true => llt (a.map (·.toNat)) (b.map (·.toNat)) | false => Nat.ble x.toNat y.toNat) = (x < y || (x == y && Op.bytesLess a b))
      rw [ih b]
      cases h : Nat.beq x.toNat y.toNat with
      | true =>
        rw [beq_nat] at h
        have e := toNat_inj h; subst e
        simp
      | false =>
        rw [beq_nat_false] at h
        have hne : x ≠ y := fun e => h (by rw [e])
        have h2 : (x == y) = false := by simpa using hne
        rw [h2]
        simp only [Bool.false_and, Bool.or_false]
        have : ∀ (c : Bool) (p : Prop) [Decidable p], (c = true ↔ p) → c = decide p := fun c p _ h => by cases c <;> simp_all
        apply this
        rw [ble_nat, UInt8.lt_iff_toNat_lt]
        omega
theorem bytesLess_asymm : ∀ (a b : List UInt8), (Op.bytesLess a b || a == b) = !Op.bytesLess b a := by
  intro a
  induction a with
  | nil => intro b; cases b <;> simp [Op.bytesLess]
  | cons x a ih => intro b; cases b with
    | nil => simp [Op.bytesLess]
    | cons y b =>
      simp only [Op.bytesLess]
      have := ih b
      by_cases h : x = y
      · subst h
        simp only [UInt8.lt_irrefl, decide_false, Bool.false_or, beq_self_eq_true, Bool.true_and, List.cons_beq_cons]
        exact this
      · have h1 : (x == y) = false := by simpa using h
        have h2 : (y == x) = false := by simpa using fun e : y = x => h e.symm
        simp only [h1, h2, Bool.false_and, Bool.or_false, List.cons_beq_cons]
        have : ∀ (c d : Bool), (c = true ↔ d = true) → c = d := fun c d h => by cases c <;> cases d <;> simp_all
        apply this
        simp only [decide_eq_true_eq, Bool.not_eq_true', decide_eq_false_iff_not, UInt8.lt_iff_toNat_lt]
        have : x.toNat ≠ y.toNat := fun e => h (toNat_inj e)
        omega
end Go.Ev
/- The operations on two values are the model's. -/
namespace Go.Ev
open Go
variable {P : Program} {w : World} {ρ : Rn}

theorem guard_other {op : BinOp} {t : TypeId} {xo yo : Operand} {x y : Value} (h1 : ∀ a b, ¬ (x = .agg a ∧ y = .agg b)) (h2 : ¬ (x = .nilIface ∧ y = .nilIface)) :
    (eqGuard op t xo yo x y).run P w = .ok () w := by
  unfold eqGuard
  rw [Sem.run_ite]
  generalize (!(match op with | .eql => true | .neq => true | _ => false)) = c
  cases c with
  | true => rfl
  | false =>
    simp only [Bool.false_eq_true, if_false]
    cases x <;> first
      | rfl
      | (cases y <;> first | rfl | exact absurd ⟨rfl, rfl⟩ h2 | exact absurd ⟨rfl, rfl⟩ (h1 _ _))

theorem land_toU (k : IntKind) (a b : Int) : Nat.land (toU k a) (toU k b) = (BitVec.ofInt k.bits a &&& BitVec.ofInt k.bits b).toNat := by
  rw [BitVec.toNat_and, ← toU_eq, ← toU_eq]; rfl
theorem lor_toU (k : IntKind) (a b : Int) : Nat.lor (toU k a) (toU k b) = (BitVec.ofInt k.bits a ||| BitVec.ofInt k.bits b).toNat := by
  rw [BitVec.toNat_or, ← toU_eq, ← toU_eq]; rfl
theorem xor_toU (k : IntKind) (a b : Int) : Nat.xor (toU k a) (toU k b) = (BitVec.ofInt k.bits a ^^^ BitVec.ofInt k.bits b).toNat := by
  rw [BitVec.toNat_xor, ← toU_eq, ← toU_eq]; rfl

theorem int_sound {op : BinOp} {t : TypeId} {k : IntKind} {a b : Int} {v : V} (h : intBin op k a b = some v) :
    ∃ v', (binOp op t (.int k a) (.int k b)).run P w = .ok v' w ∧ VR ρ v v' := by
  cases op <;> simp only [intBin] at h
  case add => injection h with h; subst h; exact ⟨_, by simp [binOp, Op.intArith] <;> rfl, .int _ _⟩
  case sub => injection h with h; subst h; exact ⟨_, by simp [binOp, Op.intArith] <;> rfl, .int _ _⟩
  case mul => injection h with h; subst h; exact ⟨_, by simp [binOp, Op.intArith] <;> rfl, .int _ _⟩
  case quo =>
    split at h
    · cases h
    · rename_i h0
      injection h with h; subst h
      rw [ieq_eq] at h0
      have : b ≠ 0 := by simpa using h0
      exact ⟨_, by simp [binOp, Op.intDiv, this] <;> rfl, .int _ _⟩
  case rem =>
    split at h
    · cases h
    · rename_i h0
      injection h with h; subst h
      rw [ieq_eq] at h0
      have : b ≠ 0 := by simpa using h0
      exact ⟨_, by simp [binOp, Op.intDiv, this] <;> rfl, .int _ _⟩
  case and => injection h with h; subst h; exact ⟨_, by simp [binOp, Op.intBits] <;> rfl, by rw [land_toU]; exact .int _ _⟩
  case or => injection h with h; subst h; exact ⟨_, by simp [binOp, Op.intBits] <;> rfl, by rw [lor_toU]; exact .int _ _⟩
  case xor => injection h with h; subst h; exact ⟨_, by simp [binOp, Op.intBits] <;> rfl, by rw [xor_toU]; exact .int _ _⟩
  case eql => injection h with h; subst h; exact ⟨_, by simp [binOp, Op.intCmp] <;> rfl, by rw [ieq_eq]; exact .bool _⟩
  case neq => injection h with h; subst h; exact ⟨.bool (a != b), by simp [binOp, Op.intCmp], by rw [ieq_eq, bnot_eq]; exact .bool _⟩
  case lss => injection h with h; subst h; exact ⟨.bool (a < b), by simp [binOp, Op.intCmp], by
    have e : (decide (a < b)) = !decide (b ≤ a) := by rw [← decide_not]; congr 1; exact propext (by omega)
    rw [ile_eq, bnot_eq, e]; exact .bool _⟩
  case leq => injection h with h; subst h; exact ⟨.bool (a ≤ b), by simp [binOp, Op.intCmp], by rw [ile_eq]; exact .bool _⟩
  case gtr => injection h with h; subst h; exact ⟨.bool (a > b), by simp [binOp, Op.intCmp], by
    have e : (decide (a > b)) = !decide (a ≤ b) := by rw [← decide_not]; congr 1; exact propext (by omega)
    rw [ile_eq, bnot_eq, e]; exact .bool _⟩
  case geq => injection h with h; subst h; exact ⟨.bool (a ≥ b), by simp [binOp, Op.intCmp], by rw [ile_eq]; exact .bool _⟩
  all_goals cases h

theorem shift_sound {op : BinOp} {t : TypeId} {k j : IntKind} {a b : Int} {v : V} (h : shiftV op k a b = some v) :
    ∃ v', (binOp op t (.int k a) (.int j b)).run P w = .ok v' w ∧ VR ρ v v' := by
  unfold shiftV at h
  rw [ile_eq] at h
  split at h
  · cases h
  · rename_i h0
    have hb : ¬ b < 0 := by have := of_decide_eq_true h0; omega
    cases op <;> simp only [] at h <;> first | cases h | skip
    · exact ⟨_, by simp [binOp, Op.shift, hb] <;> rfl, by rw [nmin_eq]; simp only [Int.natCast_pow]; exact .int _ _⟩
    · exact ⟨_, by simp [binOp, Op.shift, hb] <;> rfl, by rw [nmin_eq]; simp only [Int.natCast_pow]; exact .int _ _⟩

theorem str_sound {op : BinOp} {t : TypeId} {s u : ByteArray} {v : V} (h : strBin op (ofBytes s) s.size (ofBytes u) u.size = some v) :
    ∃ v', (binOp op t (.string s) (.string u)).run P w = .ok v' w ∧ VR ρ v v' := by
  have e1 := leq_bytes s u
  have e2 : llt (ofBytes s) (ofBytes u) = Op.bytesLess s.toList u.toList := by rw [ByteArray.toList_eq, ByteArray.toList_eq]; exact llt_bytes _ _
  have e3 : llt (ofBytes u) (ofBytes s) = Op.bytesLess u.toList s.toList := by rw [ByteArray.toList_eq, ByteArray.toList_eq]; exact llt_bytes _ _
  cases op <;> simp only [strBin] at h
  case add =>
    split at h
    · rename_i hb
      injection h with h; subst h
      have hb := ble_nat.1 hb
      refine ⟨.string (s ++ u), ?_, .str _ _ _ ?_ ?_⟩
      · have : ¬ (IntKind.i64.max < ((s.size + u.size : Nat) : Int)) := by
          have : IntKind.i64.max = 9223372036854775807 := by decide
          rw [this]; omega
        simp only [binOp, Op.stringOp, Sem.run_ite, Sem.run_pure]
        rw [if_neg (by simpa using this)]
      · rw [lapp_eq]; simp [ofBytes, ByteArray.data_append]
      · rw [lapp_eq, List.length_append, ofBytes_size, ofBytes_size]
    · cases h
  case eql => injection h with h; subst h; exact ⟨_, by simp [binOp, Op.stringOp] <;> rfl, by rw [e1]; exact .bool _⟩
  case neq => injection h with h; subst h; exact ⟨.bool (!(s.toList == u.toList)), by simp [binOp, Op.stringOp], by rw [e1, bnot_eq]; exact .bool _⟩
  case lss => injection h with h; subst h; exact ⟨_, by simp [binOp, Op.stringOp] <;> rfl, by rw [e2]; exact .bool _⟩
  case gtr => injection h with h; subst h; exact ⟨.bool (!(Op.bytesLess s.toList u.toList || s.toList == u.toList)), by simp [binOp, Op.stringOp], by rw [e3, bytesLess_asymm, Bool.not_not]; exact .bool _⟩
  case leq => injection h with h; subst h; exact ⟨.bool (Op.bytesLess s.toList u.toList || s.toList == u.toList), by simp [binOp, Op.stringOp], by rw [e3, bytesLess_asymm, bnot_eq]; exact .bool _⟩
  case geq => injection h with h; subst h; exact ⟨.bool (!Op.bytesLess s.toList u.toList), by simp [binOp, Op.stringOp], by rw [e2, bnot_eq]; exact .bool _⟩
  all_goals cases h

end Go.Ev
/- Comparisons are the model's. -/
namespace Go.Ev
open Go
variable {P : Program} {w : World} {ρ : Rn}

theorem VR.agg_inv {l : List V} {v : Value} (h : VR ρ (.agg l) v) : ∃ l', v = .agg l'.toArray ∧ VRs ρ l l' ∧ allOne l = true := by
  cases h with | agg _ l' h h1 => exact ⟨l', rfl, h, h1⟩
theorem VR.tup_inv {l : List V} {v : Value} (h : VR ρ (.tup l) v) : ∃ l', v = .tuple l'.toArray ∧ VRs ρ l l' := by
  cases h with | tup _ l' h => exact ⟨l', rfl, h⟩
theorem VR.int_inv {k : IntKind} {n : Int} {v : Value} (h : VR ρ (.int k n) v) : v = .int k n := by cases h; rfl
theorem VR.bool_inv {b : Bool} {v : Value} (h : VR ρ (.bool b) v) : v = .bool b := by cases h; rfl

theorem allOne_sub {l : List V} (h : allOne l = true) (o n : Nat) : allOne ((l.drop o).take n) = true := by
  rw [allOne_iff] at *
  exact fun v hv => h v (List.mem_of_mem_drop (List.mem_of_mem_take hv))

theorem part_sound {xs : List V} {xs' : List Value} (h : VRs ρ xs xs') (h1 : allOne xs = true) {t o : Nat} {v : V} (hp : partV P t xs o = some v) :
    ∃ v', (part t xs'.toArray o).run P w = .ok v' w ∧ VR ρ v v' := by
  unfold partV at hp
  split at hp
  · rename_i ha
    split at hp
    · rename_i n hn
      split at hp
      · rename_i l hl
        injection hp with hp; subst hp
        obtain ⟨hle, rfl⟩ := sub_some hl
        refine ⟨.agg ((xs'.drop o).take n).toArray, ?_, .agg _ _ ((h.drop o).take n) (allOne_sub h1 o n)⟩
        simp only [part, Sem.run_bind, r_isAgg ha, r_size hn, Result.andThen_ok, if_true, Sem.run_pure]
        congr 2
        apply Array.ext'
        simp [List.take_drop]
      · cases hp
    · cases hp
  · rename_i ha
    rw [nth_eq] at hp
    obtain ⟨v', hv, hr⟩ := h.get hp
    refine ⟨v', ?_, hr⟩
    simp only [part, Sem.run_bind, r_isAgg ha, Result.andThen_ok, Bool.false_eq_true, if_false]
    simp [hv]
  · cases hp

theorem eqS_bool {a : Bool} {y : V} {y' : Value} {r : Bool} (hy : VR ρ y y') (h : eqS (.bool a) y = some r) : ∃ b, y' = .bool b ∧ r = (a == b) := by
  cases hy <;> simp only [eqS] at h <;> first | cases h | skip
  exact ⟨_, rfl, beq_eq _ _⟩
theorem eqS_int {k : IntKind} {a : Int} {y : V} {y' : Value} {r : Bool} (hy : VR ρ y y') (h : eqS (.int k a) y = some r) : ∃ b, y' = .int k b ∧ r = (a == b) := by
  cases hy <;> simp only [eqS] at h <;> first | cases h | skip
  split at h
  · rename_i hk; have := sameK_eq hk; subst this
    injection h with h; exact ⟨_, rfl, by rw [← h, ieq_eq]⟩
  · cases h
theorem eqS_str {l : List Nat} {n : Nat} {x' : Value} {y : V} {y' : Value} {r : Bool} (hx : VR ρ (.str l n) x') (hy : VR ρ y y') (h : eqS (.str l n) y = some r) :
    ∃ s u, x' = .string s ∧ y' = .string u ∧ r = (s.toList == u.toList) := by
  obtain ⟨s, rfl, hl, hn⟩ := hx.str_inv
  cases hy <;> simp only [eqS] at h <;> first | cases h | skip
  rename_i l2 n2 s2 hl2 hn2
  exact ⟨_, _, rfl, rfl, by rw [← hl, ← hl2, leq_bytes]⟩

theorem eqFs_sound {g : Nat → V → V → Option Bool} {D : Nat} (hg : ∀ t x y x' y' r, g t x y = some r → VR ρ x x' → VR ρ y y' → ∀ w, (Op.equalIn D t x' y').run P w = .ok r w)
    {xs ys : List V} {xs' ys' : List Value} (hx : VRs ρ xs xs') (hy : VRs ρ ys ys') (hx1 : allOne xs = true) (hy1 : allOne ys = true) :
    ∀ (fs : List Field) (r : Bool) (w : World), eqFs P g xs ys fs = some r → (Op.eqFields D xs'.toArray ys'.toArray fs).run P w = .ok r w := by
  intro fs
  induction fs with
  | nil => intro r w h; simp only [eqFs] at h; injection h with h; subst h; simp [Op.eqFields]
  | cons f fs ih =>
    intro r w h
    change (match f.name == "_" with
      | true => none
      | false => match partV P f.type xs f.offset, partV P f.type ys f.offset with
        | some a, some b => match g f.type a b with
          | some true => eqFs P g xs ys fs
          | some false => some false
          | none => none
        | _, _ => none) = some r at h
    split at h
    · cases h
    · rename_i hname
      have hname : f.name ≠ "_" := by simpa using hname
      split at h
      · rename_i a b ha hb
        obtain ⟨a', ra, va⟩ := part_sound (w := w) hx hx1 ha
        obtain ⟨b', rb, vb⟩ := part_sound (w := w) hy hy1 hb
        split at h
        · rename_i hgt
          have := hg _ _ _ _ _ _ hgt va vb w
          simp only [Op.eqFields, if_pos hname, Sem.run_bind, ra, rb, this, Result.andThen_ok]
          exact ih r w h
        · rename_i hgt
          have := hg _ _ _ _ _ _ hgt va vb w
          injection h with h; subst h
          simp [Op.eqFields, if_pos hname, ra, rb, this]
        · cases h
      · cases h

theorem eqT_s (d t : Nat) (x y : V) : eqT P (d + 1) t x y = (match P.underlying t with
    | some .bool => match x with
      | .bool _ => eqS x y
      | _ => none
    | some (.int _) => match x with
      | .int _ _ => eqS x y
      | _ => none
    | some .string => match x with
      | .str _ _ => eqS x y
      | _ => none
    | some (.struct fs) => match P.stoodInHeld t with
      | true => none
      | false => match x, y with
        | .agg xs, .agg ys => eqFs P (eqT P d) xs ys fs.toList
        | _, _ => none
    | _ => none) := rfl
theorem eqT_sound : ∀ (d : Nat) (t : Nat) (x y : V) (x' y' : Value) (r : Bool) (D : Nat), d ≤ D → eqT P d t x y = some r → VR ρ x x' → VR ρ y y' → ∀ w, (Op.equalIn D t x' y').run P w = .ok r w := by
  intro d
  induction d with
  | zero => intro t x y x' y' r D _ h; cases h
  | succ d ih =>
    intro t x y x' y' r D hD h hx hy w
    obtain ⟨D, rfl⟩ : ∃ E, D = E + 1 := ⟨D - 1, by omega⟩
    rw [eqT_s] at h
    split at h
    · rename_i hu
      split at h
      · rename_i a
        obtain ⟨b, rfl, rfl⟩ := eqS_bool hy h
        rw [hx.bool_inv]
        exact run_equalIn_bool' w D t _ _ hu
      · cases h
    · rename_i k hu
      split at h
      · obtain ⟨b, rfl, rfl⟩ := eqS_int hy h
        rw [hx.int_inv]
        exact run_equalIn_int w D t _ _ _ _ hu
      · cases h
    · rename_i hu
      split at h
      · obtain ⟨s, u, rfl, rfl, rfl⟩ := eqS_str hx hy h
        exact run_equalIn_string w D t _ _ hu
      · cases h
    · rename_i fs hu
      split at h
      · cases h
      · rename_i hst
        split at h
        · rename_i xs ys
          obtain ⟨xs', rfl, vx, ox⟩ := hx.agg_inv
          obtain ⟨ys', rfl, vy, oy⟩ := hy.agg_inv
          have hf : P.fieldsOf t = fs := by simp [Program.fieldsOf, hu]
          rw [run_equalIn_struct w D t _ _ (by rw [hf]; exact hu) hst, hf]
          exact eqFs_sound (fun t x y x' y' r hr hx hy w => ih t x y x' y' r D (by omega) hr hx hy w) vx vy ox oy _ _ _ h
        · cases h
    · cases h

theorem sameAddr_block {b : Nat} {o q : Nat} : (sameAddr ⟨b, o, none⟩ ⟨b, q, none⟩).run P w = .ok (o == q) w := by
  unfold sameAddr
  simp only [beq_self_eq_true, if_true, Sem.run_pure]
  congr 1
  have : ∀ (c d : Bool), (c = true ↔ d = true) → c = d := fun c d h => by cases c <;> cases d <;> simp_all
  apply this
  simp

/-- a pointer, a slice, a map, a function, an interface, held against nil or one in the same block -/
theorem descEq_soundD {t : Nat} {x y : V} {x' y' : Value} {r : Bool} (D : Nat) (hD8 : 8 ≤ D + 1) (h : descEq P t x y = some r) (hx : VR ρ x x') (hy : VR ρ y y') :
    (Op.equalIn (D + 1) t x' y').run P w = .ok r w := by
  unfold descEq at h
  split at h
  · rename_i hu
    split at h
    · injection h with h
      rw [hx.bool_inv, hy.bool_inv, run_equalIn_bool' w _ t _ _ hu, ← h, beq_eq]
    · cases h
  · rename_i e hu
    split at h
    · rename_i a o b q
      split at h
      · rename_i n hs
        split at h
        · rename_i hab
          rw [beq_nat] at hab; subst hab
          cases hx with
          | ptr _ _ la ha =>
            cases hy with
            | ptr _ _ lb hb =>
              rw [ha] at hb; injection hb with hb; subst hb
              injection h with h
              simp only [Op.equalIn, Sem.run_bind, r_und hu, Result.andThen_ok, r_size hs]
              rw [if_pos (by omega), sameAddr_block, ← h]
              congr 1
              have : ∀ (c d : Bool), (c = true ↔ d = true) → c = d := fun c d h => by cases c <;> cases d <;> simp_all
              apply this
              rw [beq_nat]; simp
        · cases h
      · cases h
    · injection h with h; subst h; cases hx; cases hy; simp [Op.equalIn, r_und hu]
    · injection h with h; subst h; cases hx; cases hy; simp [Op.equalIn, r_und hu]
    · injection h with h; subst h; cases hx; cases hy; simp [Op.equalIn, r_und hu]
    · cases h
  · rename_i e hu
    split at h <;> first | cases h | skip
    · cases hx; cases hy; simp [Op.equalIn, r_und hu]
    · cases hx <;> cases hy <;> simp [Op.equalIn, r_und hu]
    · cases hx; cases hy <;> simp [Op.equalIn, r_und hu]
  · rename_i e1 e2 hu
    split at h <;> first | cases h | skip
    · cases hx; cases hy; simp [Op.equalIn, r_und hu]
    · cases hx; cases hy; simp [Op.equalIn, r_und hu]
    · cases hx; cases hy; simp [Op.equalIn, r_und hu]
  · rename_i e1 e2 e3 hu
    split at h <;> first | cases h | skip
    · cases hx; cases hy; simp [Op.equalIn, r_und hu]
    · cases hx; cases hy; simp [Op.equalIn, r_und hu]
    · cases hx; cases hy; simp [Op.equalIn, r_und hu]
    · cases hx; cases hy; simp [Op.equalIn, r_und hu]
    · cases hx; cases hy; simp [Op.equalIn, r_und hu]
  · rename_i e1 hu
    split at h <;> first | cases h | skip
    · cases hx; cases hy; simp [Op.equalIn, r_und hu]
    · cases hx; cases hy; simp [Op.equalIn, r_und hu]
  · rename_i fs hu
    split at h
    · cases h
    · exact eqT_sound 8 t x y x' y' r (D + 1) hD8 h hx hy w
  · cases h
theorem descEq_sound {t : Nat} {x y : V} {x' y' : Value} {r : Bool} (h : descEq P t x y = some r) (hx : VR ρ x x') (hy : VR ρ y y') :
    (Op.equal t x' y').run P w = .ok r w := descEq_soundD 9999 (by omega) h hx hy
end Go.Ev
/- The operations that look at their operands alone are the model's. -/
namespace Go.Ev
open Go
variable {P : Program} {w : World} {ρ : Rn}

theorem equal_nils {t : TypeId} {ms : Array (String × TypeId)} (hu : P.underlying t = some (.interface ms)) : (Op.equal t .nilIface .nilIface).run P w = .ok true w := by
  have : ∀ D, (Op.equalIn (D + 1) t .nilIface .nilIface).run P w = .ok true w := fun D => by simp [Op.equalIn, r_und hu]
  exact this 9999

theorem binOp_eql {t : TypeId} {x y : Value} (h : ¬ (∃ k a j b, x = .int k a ∧ y = .int j b)) (h2 : ¬ (∃ a b, x = .string a ∧ y = .string b)) (h3 : ∀ k b, x ≠ .float k b) (h4 : ∀ k b c, x ≠ .complex k b c) :
    (binOp .eql t x y).run P w = ((Op.equal t x y).run P w).andThen fun b w => .ok (.bool b) w := by
  cases x <;> first
    | (cases y <;> first
        | exact absurd ⟨_, _, _, _, rfl, rfl⟩ h
        | exact absurd ⟨_, _, rfl, rfl⟩ h2
        | exact absurd rfl (h3 _ _)
        | exact absurd rfl (h4 _ _ _)
        | (simp [binOp]; done))
    | (simp [binOp]; done)
theorem binOp_neq {t : TypeId} {x y : Value} (h : ¬ (∃ k a j b, x = .int k a ∧ y = .int j b)) (h2 : ¬ (∃ a b, x = .string a ∧ y = .string b)) (h3 : ∀ k b, x ≠ .float k b) (h4 : ∀ k b c, x ≠ .complex k b c) :
    (binOp .neq t x y).run P w = ((Op.equal t x y).run P w).andThen fun b w => .ok (.bool (!b)) w := by
  cases x <;> first
    | (cases y <;> first
        | exact absurd ⟨_, _, _, _, rfl, rfl⟩ h
        | exact absurd ⟨_, _, rfl, rfl⟩ h2
        | exact absurd rfl (h3 _ _)
        | exact absurd rfl (h4 _ _ _)
        | (simp [binOp]; done))
    | (simp [binOp]; done)

theorem VR.noFloat {v : V} {v' : Value} (h : VR ρ v v') (hb : v ≠ .bad) : (∀ k b, v' ≠ .float k b) ∧ (∀ k b c, v' ≠ .complex k b c) := by
  cases h <;> first | exact absurd rfl hb | (refine ⟨?_, ?_⟩ <;> (intros; intro h; cases h))
theorem VR.int_of {v : V} {k : IntKind} {n : Int} (h : VR ρ v (.int k n)) (hb : v ≠ .bad) : v = .int k n ∨ ∃ lo hi, v = .rng k lo hi := by
  cases h <;> first | exact .inl rfl | exact .inr ⟨_, _, rfl⟩ | exact absurd rfl hb
theorem VR.str_of {v : V} {s : ByteArray} (h : VR ρ v (.string s)) (hb : v ≠ .bad) : ∃ l n, v = .str l n := by
  cases h <;> first | exact ⟨_, _, rfl⟩ | exact absurd rfl hb

theorem descEq_bad {t : Nat} {x y : V} {r : Bool} (h : descEq P t x y = some r) : x ≠ .bad := by
  rintro rfl
  unfold descEq at h
  split at h <;> first | cases h | skip
  all_goals (split at h <;> first | cases h | skip)
  rw [eqT_s] at h
  split at h <;> first | cases h | skip
  split at h <;> cases h

theorem guard_struct {op : BinOp} {t : TypeId} {xo yo : Operand} {a b : Array Value} (h : P.eqGuardType P.depth t = false) : (eqGuard op t xo yo (.agg a) (.agg b)).run P w = .ok () w :=
  run_eqGuard_agg w op t xo yo a b h

theorem descEq_shape {t : Nat} {x y : V} {r : Bool} (h : descEq P t x y = some r) : (∃ fs, P.underlying t = some (.struct fs)) ∨ (∀ l, x ≠ .agg l) ∧ (x = .nili → y = .nili → False) := by
  unfold descEq at h
  split at h
  case h_7 fs hu => exact .inl ⟨fs, hu⟩
  case h_8 => cases h
  all_goals refine .inr ⟨fun l e => ?_, fun e1 e2 => ?_⟩
  all_goals (subst_vars; simp only at h; try (cases h; done))

/-- the guard ahead of a comparison that is told -/
theorem guard_desc {op : BinOp} {t : TypeId} {xo yo : Operand} {x y : V} {x' y' : Value} {r : Bool} (h : descEq P t x y = some r) (hx : VR ρ x x') (hy : VR ρ y y') (hyb : y ≠ .bad) :
    (eqGuard op t xo yo x' y').run P w = .ok () w := by
  have hxb := descEq_bad h
  rcases descEq_shape h with ⟨fs, hu⟩ | ⟨h1, h2⟩
  · have hg : P.eqGuardType P.depth t = false := by
      unfold descEq at h
      rw [hu] at h
      simp only at h
      split at h
      · cases h
      · assumption
    by_cases ha : ∃ a b, x' = .agg a ∧ y' = .agg b
    · obtain ⟨a, b, rfl, rfl⟩ := ha
      exact guard_struct hg
    · refine guard_other (fun a b e => ha ⟨a, b, e⟩) ?_
      rintro ⟨rfl, rfl⟩
      unfold descEq at h
      rw [hu] at h
      simp only [hg] at h
      rw [eqT_s, hu] at h
      simp only at h
      split at h
      · cases h
      · split at h
        · cases hx
        · cases h
  · refine guard_other ?_ ?_
    · rintro a b ⟨rfl, rfl⟩
      cases hx with
      | agg l l' _ _ => exact h1 l rfl
      | bad => exact hxb rfl
    · rintro ⟨rfl, rfl⟩
      cases hx with
      | nili => cases hy with
        | nili => exact h2 rfl rfl
        | bad => exact hyb rfl
      | bad => exact hxb rfl
end Go.Ev
/- The operations that look at their operands alone are the model's, second part. -/
namespace Go.Ev
open Go
variable {P : Program} {w : World} {ρ : Rn}

/-- a run that gives what is told, and changes nothing -/
def PS (P : Program) (w : World) (ρ : Rn) (s : Sem Value) (v : V) : Prop := ∃ v', s.run P w = .ok v' w ∧ VR ρ v v'

theorem eqS_bad {x : V} {r : Bool} (h : eqS x .bad = some r) : False := by
  cases x <;> simp only [eqS] at h <;> cases h
theorem descEq_bad2 {t : Nat} {x y : V} {r : Bool} (h : descEq P t x y = some r) : y ≠ .bad := by
  rintro rfl
  unfold descEq at h
  split at h
  case h_7 =>
    split at h
    · cases h
    · rw [eqT_s] at h
      split at h
      · split at h
        · exact eqS_bad h
        · cases h
      · split at h
        · exact eqS_bad h
        · cases h
      · split at h
        · exact eqS_bad h
        · cases h
      · split at h
        · cases h
        · simp only at h; cases h
      · cases h
  all_goals (try (cases x <;> (simp only at h; try (cases h; done))))
  all_goals (try (cases h; done))

theorem guard_nils {op : BinOp} {t : TypeId} {xo yo : Operand} (hl : nilLit xo yo = true) : (eqGuard op t xo yo .nilIface .nilIface).run P w = .ok () w := by
  unfold eqGuard
  rw [Sem.run_ite]
  generalize (!(match op with | .eql => true | .neq => true | _ => false)) = c
  cases c with
  | true => rfl
  | false =>
    simp only [Bool.false_eq_true, if_false]
    cases xo <;> cases yo <;> first | rfl | (simp [nilLit] at hl)
theorem eqV_sound {op : BinOp} {t : Nat} {xo yo : Operand} {x y : V} {x' y' : Value} {r : Bool} (h : eqV P t (nilLit xo yo) x y = some r) (hx : VR ρ x x') (hy : VR ρ y y')
    (hxs : ∀ k n, x ≠ .int k n) (hxs2 : ∀ l n, x ≠ .str l n) :
    (eqGuard op t xo yo x' y').run P w = .ok () w ∧ (Op.equal t x' y').run P w = .ok r w ∧ x ≠ .bad := by
  unfold eqV at h
  split at h
  · rename_i hl
    cases hx
    cases hy
    split at h
    · rename_i ms hu
      injection h with h; subst h
      refine ⟨?_, equal_nils hu, by simp⟩
      exact guard_nils hl
    · cases h
  · exact ⟨guard_desc h hx hy (descEq_bad2 h), descEq_sound h hx hy, descEq_bad h⟩

theorem ile_le {a b : Int} : ile a b = true ↔ a ≤ b := by rw [ile_eq]; simp
theorem ile_gt {a b : Int} : ile a b = false ↔ b < a := by rw [ile_eq]; simp
theorem cmpR_int {op : BinOp} {k : IntKind} {lo hi n b : Int} {v : V} (h : cmpR op lo hi b = some v) (h1 : lo ≤ n) (h2 : n ≤ hi) : intBin op k n b = some v := by
  cases op <;> simp only [cmpR] at h <;> first | (cases h; done) | skip
  all_goals
    split at h <;> first | (cases h; done) | skip
    all_goals
      injection h with h; subst h
      simp only [intBin, Option.some.injEq, V.bool.injEq]
      simp only [ile_le, ile_gt] at *
      first
        | omega
        | (rw [ile_le.2 (by omega)]; first | rfl | done)
        | (rw [ile_gt.2 (by omega)]; first | rfl | done)
theorem cmpR_flip {op : BinOp} {k : IntKind} {lo hi n a : Int} {v : V} (h : cmpR (flipC op) lo hi a = some v) (h1 : lo ≤ n) (h2 : n ≤ hi) : intBin op k a n = some v := by
  cases op <;> simp only [cmpR, flipC] at h <;> first | (cases h; done) | skip
  all_goals
    split at h <;> first | (cases h; done) | skip
    all_goals
      injection h with h; subst h
      simp only [intBin, Option.some.injEq, V.bool.injEq]
      simp only [ile_le, ile_gt] at *
      first
        | omega
        | (rw [ile_le.2 (by omega)]; first | rfl | done)
        | (rw [ile_gt.2 (by omega)]; first | rfl | done)
theorem VR.rng_inv {k : IntKind} {lo hi : Int} {x : Value} (h : VR ρ (.rng k lo hi) x) : ∃ n, x = .int k n ∧ lo ≤ n ∧ n ≤ hi := by cases h; exact ⟨_, rfl, ‹_›, ‹_›⟩

theorem binV_sound {op : BinOp} {t : Nat} {xo yo : Operand} {x y : V} {x' y' : Value} {v : V} (h : binV P op t (nilLit xo yo) x y = some v) (hx : VR ρ x x') (hy : VR ρ y y') :
    PS P w ρ (do eqGuard op t xo yo x' y'; binOp op t x' y') v := by
  unfold PS
  unfold binV at h
  split at h
  · rename_i k a
    split at h
    · rename_i j b
      rw [hx.int_inv, hy.int_inv]
      simp only [Sem.run_bind]
      rw [guard_other (fun _ _ e => by cases e.1) (fun e => by cases e.1)]
      simp only [Result.andThen_ok]
      split at h
      · exact shift_sound h
      · exact shift_sound h
      · split at h
        · rename_i hk; have := sameK_eq hk; subst this
          exact int_sound h
        · cases h
    · rename_i j lo hi
      obtain ⟨n, rfl, h1, h2⟩ := hy.rng_inv
      rw [hx.int_inv]
      simp only [Sem.run_bind]
      rw [guard_other (fun _ _ e => by cases e.1) (fun e => by cases e.1)]
      simp only [Result.andThen_ok]
      split at h
      · rename_i hk; have := sameK_eq hk; subst this
        exact int_sound (cmpR_flip h h1 h2)
      · cases h
    · cases h
  · rename_i k lo hi
    split at h
    · rename_i j b
      obtain ⟨n, rfl, h1, h2⟩ := hx.rng_inv
      rw [hy.int_inv]
      simp only [Sem.run_bind]
      rw [guard_other (fun _ _ e => by cases e.1) (fun e => by cases e.1)]
      simp only [Result.andThen_ok]
      split at h
      · rename_i hk; have := sameK_eq hk; subst this
        exact int_sound (cmpR_int h h1 h2)
      · cases h
    · cases h
  · rename_i a n
    split at h
    · rename_i b m
      obtain ⟨s, rfl, hs, hn⟩ := hx.str_inv
      obtain ⟨u, rfl, hu, hm⟩ := hy.str_inv
      simp only [Sem.run_bind]
      rw [guard_other (fun _ _ e => by cases e.1) (fun e => by cases e.1)]
      simp only [Result.andThen_ok]
      subst hs; subst hu
      rw [ofBytes_size] at hn hm; subst hn; subst hm
      exact str_sound h
    · cases h
  · rename_i hxi hxr hxs
    have key : ∀ r, eqV P t (nilLit xo yo) x y = some r → (eqGuard op t xo yo x' y').run P w = .ok () w ∧ (Op.equal t x' y').run P w = .ok r w ∧
        (¬ (∃ k a j b, x' = .int k a ∧ y' = .int j b)) ∧ (¬ (∃ a b, x' = .string a ∧ y' = .string b)) ∧ (∀ k b, x' ≠ .float k b) ∧ (∀ k b c, x' ≠ .complex k b c) := by
      intro r hr
      obtain ⟨g1, g2, g3⟩ := eqV_sound (w := w) (op := op) hr hx hy (by rintro k n rfl; exact hxi k n rfl) (by rintro l n rfl; exact hxs l n rfl)
      refine ⟨g1, g2, ?_, ?_, (hx.noFloat g3).1, (hx.noFloat g3).2⟩
      · rintro ⟨k, a, j, b, rfl, rfl⟩; rcases hx.int_of g3 with e | ⟨lo, hi, e⟩; (subst e; exact hxi k a rfl); (subst e; exact hxr k lo hi rfl)
      · rintro ⟨a, b, rfl, rfl⟩; obtain ⟨l, n, e⟩ := hx.str_of g3; subst e; exact hxs l n rfl
    split at h
    · split at h
      · rename_i r hr
        injection h with h; subst h
        obtain ⟨g1, g2, g3, g4, g5, g6⟩ := key r hr
        refine ⟨.bool r, ?_, .bool r⟩
        simp only [Sem.run_bind, g1, Result.andThen_ok, binOp_eql g3 g4 g5 g6, g2]
      · cases h
    · split at h
      · rename_i r hr
        injection h with h; subst h
        obtain ⟨g1, g2, g3, g4, g5, g6⟩ := key r hr
        refine ⟨.bool !r, ?_, by rw [bnot_eq]; exact .bool _⟩
        simp only [Sem.run_bind, g1, Result.andThen_ok, binOp_neq g3 g4 g5 g6, g2]
      · cases h
    · cases h

theorem unV_sound {op : UnOp} {x : V} {x' : Value} {v : V} (h : unV op x = some v) (hx : VR ρ x x') : PS P w ρ (Op.unary op x') v := by
  unfold PS
  unfold unV at h
  split at h
  · rename_i k n
    rw [hx.int_inv]
    split at h
    · injection h with h; subst h; exact ⟨_, by simp [Op.unary, Op.intArith] <;> rfl, .int _ _⟩
    · injection h with h; subst h
      refine ⟨_, by simp [Op.unary, Op.intBits] <;> rfl, ?_⟩
      rw [xor_toU]
      cases hk : k.signed <;> simp [BitVec.toNat_ofInt] <;> exact .int _ _
    · cases h
  · rename_i b
    rw [hx.bool_inv]
    split at h
    · injection h with h; subst h; exact ⟨_, by simp [Op.unary] <;> rfl, by rw [bnot_eq]; exact .bool _⟩
    · cases h
  · cases h

theorem pickV_sound {c a b : V} {c' a' b' : Value} {v : V} (h : pickV c a b = some v) (hc : VR ρ c c') (ha : VR ρ a a') (hb : VR ρ b b') :
    PS P w ρ (do pure (if ← asBool c' then a' else b')) v := by
  unfold PS
  unfold pickV at h
  split at h
  · injection h with h; subst h; rw [hc.bool_inv]; exact ⟨_, by simp [asBool] <;> rfl, ha⟩
  · injection h with h; subst h; rw [hc.bool_inv]; exact ⟨_, by simp [asBool] <;> rfl, hb⟩
  · cases h

theorem faceV_sound {t : Nat} {x : V} {x' : Value} {v : V} (h : faceV P t x = some v) (hx : VR ρ x x') : PS P w ρ (Instr.makeInterface t x') v := by
  unfold PS
  unfold faceV at h
  split at h
  · cases h
  · rename_i d hn hu
    injection h with h; subst h
    refine ⟨.iface t x', ?_, .iface _ _ _ hx⟩
    simp only [Instr.makeInterface, Sem.run_bind, r_und hu, Result.andThen_ok]
    cases d <;> first | rfl | exact absurd rfl (hn _)
  · cases h

theorem extractV_sound {x : V} {x' : Value} {i : Nat} {v : V} (h : extractV x i = some v) (hx : VR ρ x x') : PS P w ρ (Instr.extract x' i) v := by
  unfold PS
  unfold extractV at h
  split at h
  · rename_i l
    obtain ⟨l', rfl, hl⟩ := hx.tup_inv
    rw [nth_eq] at h
    obtain ⟨v', hv, hr⟩ := hl.get h
    exact ⟨v', by simp [Instr.extract, hv], hr⟩
  · cases h

theorem natOf_sound {x : V} {x' : Value} {n : Nat} (h : natOf x = some n) (hx : VR ρ x x') : ∃ k, x' = .int k (Int.ofNat n) := by
  unfold natOf at h
  split at h
  · injection h with h; subst h; exact ⟨_, hx.int_inv⟩
  · cases h

theorem fieldOf_some {t f q u : Nat} (h : fieldOf P t f = some (q, u)) : ∃ fs x, P.underlying t = some (.struct fs) ∧ fs[f]? = some x ∧ x.offset = q ∧ x.type = u := by
  unfold fieldOf at h
  split at h
  · rename_i fs hu
    split at h
    · rename_i x hx
      rw [nth_eq] at hx
      injection h with h; injection h with h1 h2
      exact ⟨fs, x, hu, by simpa using hx, h1, h2⟩
    · cases h
  · cases h

theorem add_off (b o n : Nat) : (Addr.add ⟨b, o, none⟩ n) = ⟨b, o + n, none⟩ := by
  unfold Addr.add
  split
  · rename_i h; subst h; rfl
  · rfl

theorem fieldAtV_sound {t f : Nat} {x : V} {x' : Value} {v : V} (h : fieldAtV P t x f = some v) (hx : VR ρ x x') : PS P w ρ (Instr.fieldAt t x' f) v := by
  unfold PS
  unfold fieldAtV at h
  split at h
  · rename_i b o
    split at h
    · rename_i q u hf
      split at h
      · rename_i n hs
        injection h with h; subst h
        obtain ⟨fs, fl, hu, hfl, rfl, rfl⟩ := fieldOf_some hf
        cases hx with
        | ptr _ _ loc hb =>
          refine ⟨.pointer (some ⟨loc.blk, loc.sh + (o + fl.offset), none⟩), ?_, .ptr _ _ _ hb⟩
          simp only [Instr.fieldAt, Sem.run_bind, r_und hu, Result.andThen_ok, hfl, Instr.sureAddr, Sem.run_pure, fieldPlace, r_size hs]
          simp only [Nat.succ_ne_zero, if_false, Sem.run_pure, Result.andThen_ok, add_off, Nat.add_assoc]
      · cases h
    · cases h
  · cases h

theorem fieldV_sound {t f : Nat} {x : V} {x' : Value} {v : V} (h : fieldV P t x f = some v) (hx : VR ρ x x') : PS P w ρ (Instr.field t x' f) v := by
  unfold PS
  unfold fieldV at h
  split at h
  · rename_i l
    split at h
    · rename_i q u hf
      obtain ⟨fs, fl, hu, hfl, rfl, rfl⟩ := fieldOf_some hf
      obtain ⟨l', rfl, hl, h1⟩ := hx.agg_inv
      obtain ⟨v', hv, hr⟩ := part_sound (w := w) hl h1 h
      refine ⟨v', ?_, hr⟩
      simp only [Instr.field, Sem.run_bind, r_und hu, Result.andThen_ok, hfl, asAgg, Sem.run_pure, hv]
    · cases h
  · cases h

theorem elemOf_some {t e : Nat} (h : elemOf P t = some e) : P.underlying t = some (.slice e) := by
  unfold elemOf at h
  split at h
  · rename_i hu; injection h with h; subst h; exact hu
  · cases h

theorem indexAtV_sound {t i : Nat} {x : V} {x' : Value} {k : IntKind} {v : V} (h : indexAtV P t x i = some v) (hx : VR ρ x x') : PS P w ρ (Instr.indexAt t x' (.int k (Int.ofNat i))) v := by
  unfold PS
  unfold indexAtV at h
  split at h
  · rename_i b o len cap
    split at h
    · rename_i e he
      split at h
      · rename_i sz hs
        split at h
        · rename_i hlt
          have hlt := blt_nat.1 hlt
          injection h with h; subst h
          have hu := elemOf_some he
          have hi : (0 : Int) ≤ Int.ofNat i ∧ Int.ofNat i < (len : Int) := ⟨by simp, by simpa using hlt⟩
          cases hx with
          | slx _ _ _ c loc hb hc =>
            refine ⟨.pointer (some ⟨loc.blk, loc.sh + (o + i * sz), none⟩), ?_, .ptr _ _ _ hb⟩
            simp only [Instr.indexAt, asIntOf, Sem.run_bind, Sem.run_pure, Result.andThen_ok, r_und hu, Bool.and_false, Sem.run_ite, if_pos hi, r_size hs, add_off, Nat.add_assoc]
            rfl
          | sle _ _ _ d loc hb hc =>
            refine ⟨.pointer (some ⟨loc.blk, loc.sh + (o + i * sz), none⟩), ?_, .ptr _ _ _ hb⟩
            simp only [Instr.indexAt, asIntOf, Sem.run_bind, Sem.run_pure, Result.andThen_ok, r_und hu, Bool.and_false, Sem.run_ite, if_pos hi, r_size hs, add_off, Nat.add_assoc]
            rfl
        · cases h
      · cases h
    · cases h
  · rename_i b o
    split at h
    · rename_i n e hu
      split at h
      · rename_i sz hs
        split at h
        · rename_i hlt
          have hlt := blt_nat.1 hlt
          injection h with h; subst h
          have hi : (0 : Int) ≤ Int.ofNat i ∧ Int.ofNat i < (n : Int) := ⟨by simp, by simpa using hlt⟩
          cases hx with
          | ptr _ _ loc hb =>
            refine ⟨.pointer (some ⟨loc.blk, loc.sh + (o + i * sz), none⟩), ?_, .ptr _ _ _ hb⟩
            simp only [Instr.indexAt, asIntOf, Sem.run_bind, Sem.run_pure, Result.andThen_ok, r_und hu, Instr.sureAddr, Sem.run_ite, if_pos hi, r_size hs, add_off, Nat.add_assoc]
            rfl
        · cases h
      · cases h
    · cases h
  · cases h

theorem indexV_sound {t i : Nat} {x : V} {x' : Value} {k : IntKind} {v : V} (h : indexV P t x i = some v) (hx : VR ρ x x') : PS P w ρ (Instr.index t x' (.int k (Int.ofNat i))) v := by
  unfold PS
  unfold indexV at h
  split at h
  · rename_i s n
    obtain ⟨s', rfl, hs, hn⟩ := hx.str_inv
    split at h
    · rename_i hu
      split at h
      · rename_i c hc
        injection h with h; subst h
        rw [nth_eq, ← hs, ofBytes_get] at hc
        obtain ⟨b, hb, rfl⟩ := Option.map_eq_some_iff.1 hc
        have hb' : s'[i]? = some b := by
          have hlt : i < s'.data.toList.length := by
            rcases Nat.lt_or_ge i s'.data.toList.length with h | h
            · exact h
            · rw [List.getElem?_eq_none h] at hb; cases hb
          have h2 : i < s'.size := hlt
          rw [getElem?_pos s' i h2]
          rw [List.getElem?_eq_getElem hlt] at hb
          injection hb with hb
          rw [← hb]; rfl
        refine ⟨.int .u8 (Int.ofNat b.toNat), ?_, .int _ _⟩
        simp only [Instr.index, asIntOf, Sem.run_bind, Sem.run_pure, Result.andThen_ok, r_und hu]
        have h0 : (0 : Int) ≤ Int.ofNat i := by simp
        simp only [if_pos h0]
        have e : (Int.ofNat i).toNat = i := by simp
        rw [e, hb']
        rfl
      · cases h
    · cases h
  · rename_i l
    obtain ⟨l', rfl, hl, h1⟩ := hx.agg_inv
    split at h
    · rename_i n e hu
      split at h
      · rename_i sz hs
        split at h
        · rename_i hlt
          have hlt := blt_nat.1 hlt
          have hi : (0 : Int) ≤ Int.ofNat i ∧ Int.ofNat i < (n : Int) := ⟨by simp, by simpa using hlt⟩
          obtain ⟨v', hv, hr⟩ := part_sound (w := w) hl h1 h
          refine ⟨v', ?_, hr⟩
          simp only [Instr.index, asIntOf, Sem.run_bind, Sem.run_pure, Result.andThen_ok, r_und hu, Sem.run_ite, if_pos hi, r_size hs]
          exact hv
        · cases h
      · cases h
    · cases h
  · cases h
end Go.Ev
/- The operations that look at their operands alone are the model's, third part: slices, literals, conversions, builtins. -/
namespace Go.Ev
open Go
variable {P : Program} {w : World} {ρ : Rn}

/-- an optional operand -/
def VRo (ρ : Rn) (v : Option V) (v' : Option Value) : Prop := match v, v' with
  | none, none => True
  | some v, some v' => VR ρ v v'
  | _, _ => False

theorem bound_ok {k : IntKind} {n y : Nat} {c : BoundsCode} (h : n ≤ y) : (Instr.sliceBound (.int k (Int.ofNat n)) y c).run P w = .ok n w := by
  have hi : (0 : Int) ≤ Int.ofNat n ∧ Int.ofNat n ≤ (y : Int) := ⟨by simp, by simpa using h⟩
  simp only [Instr.sliceBound, asIntOf, Sem.run_bind, Sem.run_pure, Result.andThen_ok, Sem.run_ite, if_pos hi]
  simp

theorem bound_ok' {k : IntKind} {n y : Nat} {c : BoundsCode} (h : n ≤ y) : (Instr.sliceBound (.int k (n : Int)) y c).run P w = .ok n w := bound_ok h

theorem natOr_sound {v : Option V} {v' : Option Value} {d n : Nat} (h : natOr v d = some n) (hv : VRo ρ v v') : (v' = none ∧ n = d) ∨ ∃ k, v' = some (.int k (Int.ofNat n)) := by
  cases v with
  | none => cases v' with
    | none => simp [natOr] at h; exact .inl ⟨rfl, h.symm⟩
    | some => exact hv.elim
  | some v => cases v' with
    | none => exact hv.elim
    | some v' =>
      obtain ⟨k, rfl⟩ := natOf_sound (show natOf v = some n from h) hv
      exact .inr ⟨k, rfl⟩

/-- bounds without a third one -/
theorem bounds2 {s : Bool} {len cap l h : Nat} {lo hi : Option Value} (hl : (lo = none ∧ l = 0) ∨ ∃ k, lo = some (.int k (Int.ofNat l))) (hh : (hi = none ∧ h = len) ∨ ∃ k, hi = some (.int k (Int.ofNat h)))
    (hlh : l ≤ h) (hc : h ≤ cap) : (Instr.sliceBounds s len cap lo hi none).run P w = .ok (l, h, cap) w := by
  rcases hl with ⟨rfl, rfl⟩ | ⟨k, rfl⟩ <;> rcases hh with ⟨rfl, rfl⟩ | ⟨j, rfl⟩ <;>
    simp [Instr.sliceBounds, bound_ok' hlh, bound_ok' hc]
theorem bounds3 {s : Bool} {len cap l h m : Nat} {lo hi : Option Value} {i : IntKind} (hl : (lo = none ∧ l = 0) ∨ ∃ k, lo = some (.int k (Int.ofNat l))) (hh : ∃ k, hi = some (.int k (Int.ofNat h)))
    (hlh : l ≤ h) (hm : h ≤ m) (hc : m ≤ cap) : (Instr.sliceBounds s len cap lo hi (some (.int i (Int.ofNat m)))).run P w = .ok (l, h, m) w := by
  obtain ⟨j, rfl⟩ := hh
  rcases hl with ⟨rfl, rfl⟩ | ⟨k, rfl⟩ <;>
    simp [Instr.sliceBounds, bound_ok' hlh, bound_ok' hm, bound_ok' hc]

theorem sliceStr_sound {t : Nat} {s : ByteArray} {lo hi : Option V} {lo' hi' : Option Value} {v : V} (hu : P.underlying t = some .string) (h : sliceStr (ofBytes s) s.size lo hi = some v) (hlo : VRo ρ lo lo') (hhi : VRo ρ hi hi') :
    PS P w ρ (Instr.slice t (.string s) lo' hi' none) v := by
  unfold PS
  unfold sliceStr at h
  split at h
  · rename_i l hl
    have e1 := natOr_sound hl hlo
    have key : ∀ hh, l ≤ hh → hh ≤ s.size → (hi' = none ∧ hh = s.size ∨ ∃ k, hi' = some (.int k (Int.ofNat hh))) →
        (Instr.slice t (.string s) lo' hi' none).run P w = .ok (.string (s.extract l hh)) w := by
      intro hh h1 h2 h3
      simp only [Instr.slice, Sem.run_bind, r_und hu, Result.andThen_ok, Option.isSome_none, Bool.false_eq_true, if_false, bounds2 e1 h3 h1 h2]
      rfl
    have kl : ∀ hh, l ≤ hh → hh ≤ s.size → VR ρ (.str (ltake (hh - l) (ldrop l (ofBytes s))) (hh - l)) (.string (s.extract l hh)) := by
      intro hh h1 h2
      refine .str _ _ _ ?_ ?_
      · rw [ltake_eq, ldrop_eq, ofBytes, Lib.extract_data, ofBytes]; simp
      · rw [ltake_eq, ldrop_eq, List.length_take, List.length_drop, ofBytes_size]; omega
    split at h
    · split at h
      · rename_i hle
        have hle := ble_nat.1 hle
        injection h with h; subst h
        have hn : hi' = none := by cases hi' with | none => rfl | some => exact hhi.elim
        refine ⟨_, key s.size hle (Nat.le_refl _) (.inl ⟨hn, rfl⟩), ?_⟩
        have := kl s.size hle (Nat.le_refl _)
        rw [ltake_eq, List.take_of_length_le] at this
        · exact this
        · rw [ldrop_eq, List.length_drop, ofBytes_size]; omega
      · cases h
    · rename_i hv
      split at h
      · rename_i hh hnat
        split at h
        · rename_i h1
          split at h
          · rename_i h2
            have h1 := ble_nat.1 h1
            have h2 := ble_nat.1 h2
            injection h with h; subst h
            cases hi' with
            | none => exact hhi.elim
            | some hv' =>
              obtain ⟨k, rfl⟩ := natOf_sound hnat hhi
              exact ⟨_, key hh h2 h1 (.inr ⟨k, rfl⟩), kl hh h2 h1⟩
          · cases h
        · cases h
      · cases h
  · cases h

theorem slice_slice {t e sz len cap l h m : Nat} {a : Option Addr} {lo hi mx : Option Value} (hu : P.underlying t = some (.slice e)) (hs : szOf P e = some sz)
    (hb : (Instr.sliceBounds true len cap lo hi mx).run P w = .ok (l, h, m) w) : (Instr.slice t (.slice a len cap) lo hi mx).run P w = .ok (.slice (if m = l then a else a.map (·.add (l * sz))) (h - l) (m - l)) w := by
  simp only [Instr.slice, Sem.run_bind, r_und hu, Result.andThen_ok, hb, r_size hs]
  rfl

theorem sliceSl_sound {t e sz b o len : Nat} {cap : Cap} {x' : Value} {lo hi mx : Option V} {lo' hi' mx' : Option Value} {v : V} (hu : P.underlying t = some (.slice e)) (hs : szOf P e = some sz)
    (h : sliceSl sz b o len cap lo hi mx = some v) (hx : VR ρ (.sl b o len cap) x') (hlo : VRo ρ lo lo') (hhi : VRo ρ hi hi') (hmx : VRo ρ mx mx') (h3 : mx = none ∨ hi ≠ none) :
    PS P w ρ (Instr.slice t x' lo' hi' mx') v := by
  unfold PS
  unfold sliceSl at h
  split at h
  · rename_i l hh hl hhn
    have e1 := natOr_sound hl hlo
    have e2 := natOr_sound hhn hhi
    split at h
    · cases h
    · rename_i hle
      have hle := ble_nat.1 hle
      split at h
      · -- two bounds
        have hm : mx' = none := by cases mx' with | none => rfl | some => exact hmx.elim
        subst hm
        split at h
        · rename_i c hc
          injection h with h; subst h
          cases hx with
          | slx _ _ _ c0 loc hb hcc =>
            simp only [capAt] at hc
            split at hc
            · rename_i h1
              have h1 := ble_nat.1 h1
              injection hc with hc; subst hc
              refine ⟨_, slice_slice hu hs (bounds2 e1 e2 hle h1), ?_⟩
              simp only [offAt]
              by_cases hcl : c0 = l
              · rw [if_pos hcl, beq_nat.2 hcl]; exact .slx _ _ _ _ _ hb (by omega)
              · rw [if_neg hcl, beq_nat_false.2 hcl]
                simp only [Option.map_some, add_off]
                rw [Nat.add_assoc]
                exact .slx _ _ _ _ _ hb (by omega)
            · cases hc
          | sle _ _ _ d loc hb hcc =>
            simp only [capAt] at hc
            split at hc
            · rename_i h1
              have h1 := ble_nat.1 h1
              split at hc
              · rename_i h2
                have h2 := blt_nat.1 h2
                injection hc with hc; subst hc
                refine ⟨_, slice_slice hu hs (bounds2 e1 e2 hle (by omega)), ?_⟩
                simp only [offAt]
                rw [if_neg (by omega)]
                simp only [Option.map_some, add_off]
                rw [Nat.add_assoc, Nat.sub_sub]
                exact .sle _ _ _ _ _ hb (by omega)
              · split at hc
                · injection hc with hc; subst hc
                  refine ⟨_, slice_slice hu hs (bounds2 e1 e2 hle (by omega)), ?_⟩
                  simp only [offAt, Nat.zero_mul, Nat.add_zero, Option.map_some, add_off, ite_self, Nat.sub_zero]
                  exact .sle _ _ _ _ _ hb (by omega)
                · cases hc
            · cases hc
        · split at h
          · split at h
            · rename_i h1 h2
              injection h with h; subst h
              have h1 := ble_nat.1 h1
              have h2 := blt_nat_false.1 h2
              cases hx with
              | sle _ _ _ _ loc hb hcc =>
                refine ⟨_, slice_slice hu hs (bounds2 e1 e2 hle (by omega)), ?_⟩
                have hz : hh - l = 0 := by omega
                rw [hz]
                split
                · exact .sl0 _ _
                · exact .sl0 _ _
            · cases h
          · cases h
      · -- three
        rename_i m0
        have hhs : ∃ k, hi' = some (.int k (Int.ofNat hh)) := by
          rcases e2 with ⟨p, _⟩ | p
          · cases hi with
            | none => rcases h3 with q | q
                      · cases q
                      · exact absurd rfl q
            | some => cases hi' with
              | none => exact hhi.elim
              | some => cases p
          · exact p
        split at h
        · rename_i m hm
          cases mx' with
          | none => exact hmx.elim
          | some mv =>
            obtain ⟨i, rfl⟩ := natOf_sound hm hmx
            split at h
            · rename_i hhm
              have hhm := ble_nat.1 hhm
              split at h
              · rename_i hmc
                injection h with h; subst h
                cases hx with
                | slx _ _ _ c0 loc hb hcc =>
                  have hmc := ble_nat.1 hmc
                  refine ⟨_, slice_slice hu hs (bounds3 e1 hhs hle hhm hmc), ?_⟩
                  simp only [offAt]
                  by_cases hcl : m = l
                  · rw [if_pos hcl, beq_nat.2 hcl]; exact .slx _ _ _ _ _ hb (by omega)
                  · rw [if_neg hcl, beq_nat_false.2 hcl]
                    simp only [Option.map_some, add_off]
                    rw [Nat.add_assoc]
                    exact .slx _ _ _ _ _ hb (by omega)
                | sle _ _ _ d loc hb hcc =>
                  have hmc := ble_nat.1 hmc
                  refine ⟨_, slice_slice hu hs (bounds3 e1 hhs hle hhm (by omega)), ?_⟩
                  simp only [offAt]
                  by_cases hcl : m = l
                  · rw [if_pos hcl, beq_nat.2 hcl]; exact .slx _ _ _ _ _ hb (by omega)
                  · rw [if_neg hcl, beq_nat_false.2 hcl]
                    simp only [Option.map_some, add_off]
                    rw [Nat.add_assoc]
                    exact .slx _ _ _ _ _ hb (by omega)
              · cases h
            · cases h
        · cases h
  · cases h

theorem sliceNil_sound {t e sz : Nat} {lo hi mx : Option V} {lo' hi' mx' : Option Value} {v : V} (hu : P.underlying t = some (.slice e)) (hs : szOf P e = some sz)
    (h : sliceNil lo hi mx = some v) (hlo : VRo ρ lo lo') (hhi : VRo ρ hi hi') (hmx : VRo ρ mx mx') : PS P w ρ (Instr.slice t (.slice none 0 0) lo' hi' mx') v := by
  unfold PS
  unfold sliceNil at h
  split at h
  · rename_i h1 h2 h3
    have e1 := natOr_sound h1 hlo
    have e2 := natOr_sound h2 hhi
    have e3 := natOr_sound h3 hmx
    split at h
    · cases h
    · rename_i hne
      injection h with h; subst h
      refine ⟨.slice none 0 0, ?_, .nils⟩
      rcases e3 with ⟨rfl, _⟩ | ⟨i, rfl⟩
      · exact slice_slice hu hs (bounds2 e1 e2 (Nat.le_refl _) (Nat.le_refl _))
      · have hhs : ∃ k, hi' = some (.int k (Int.ofNat 0)) := by
          rcases e2 with ⟨p, _⟩ | p
          · cases mx with
            | none => exact hmx.elim
            | some m => cases hi with
              | none => exact absurd rfl (hne m rfl)
              | some => cases hi' with
                | none => exact hhi.elim
                | some => cases p
          · exact p
        exact slice_slice hu hs (bounds3 e1 hhs (Nat.le_refl _) (Nat.le_refl _) (Nat.le_refl _))
  · cases h
end Go.Ev
/- The operations that look at their operands alone are the model's, fourth part. -/
namespace Go.Ev
open Go
variable {P : Program} {w : World} {ρ : Rn}

theorem sliceArr_sound {n sz b o : Nat} {loc : Loc} {lo hi mx : Option V} {lo' hi' mx' : Option Value} {v : V} (hb : ρ b = some loc)
    (h : sliceArr n sz b o lo hi mx = some v) (hlo : VRo ρ lo lo') (hhi : VRo ρ hi hi') (hmx : VRo ρ mx mx') :
    ∃ l hh m, (Instr.sliceBounds false n n lo' hi' mx').run P w = .ok (l, hh, m) w ∧ VR ρ v (.slice (some (if m = l then ⟨loc.blk, loc.sh + o, none⟩ else (⟨loc.blk, loc.sh + o, none⟩ : Addr).add (l * sz))) (hh - l) (m - l)) := by
  unfold sliceArr at h
  split at h
  · cases h
  · have hm : mx' = none := by cases mx' with | none => rfl | some => exact hmx.elim
    subst hm
    split at h
    · rename_i l hh hl hhn
      split at h
      · rename_i h1
        split at h
        · rename_i h2
          have h1 := ble_nat.1 h1
          have h2 := ble_nat.1 h2
          injection h with h; subst h
          refine ⟨l, hh, n, bounds2 (natOr_sound hl hlo) (natOr_sound hhn hhi) h2 h1, ?_⟩
          simp only [offAt]
          by_cases hcl : n = l
          · rw [if_pos hcl, beq_nat.2 hcl]; exact .slx _ _ _ _ _ hb (by omega)
          · rw [if_neg hcl, beq_nat_false.2 hcl, add_off]
            rw [Nat.add_assoc]
            exact .slx _ _ _ _ _ hb (by omega)
        · cases h
      · cases h
    · cases h

theorem sliceV_sound {t : Nat} {x : V} {x' : Value} {lo hi mx : Option V} {lo' hi' mx' : Option Value} {v : V} (h : sliceV P t x lo hi mx = some v) (hx : VR ρ x x') (hlo : VRo ρ lo lo') (hhi : VRo ρ hi hi') (hmx : VRo ρ mx mx') :
    PS P w ρ (Instr.sliceAt t x' lo' hi' mx') v := by
  have notArr : (∀ n e, P.underlying t ≠ some (.array n e)) → ∀ d, P.underlying t = some d → (Instr.sliceAt t x' lo' hi' mx').run P w = (Instr.slice t x' lo' hi' mx').run P w := by
    intro hn d hu
    simp only [Instr.sliceAt, Sem.run_bind, r_und hu, Result.andThen_ok]
    cases d <;> first | rfl | exact absurd hu (hn _ _)
  unfold PS
  unfold sliceV at h
  split at h
  · rename_i s n
    obtain ⟨s', rfl, hs, hn⟩ := hx.str_inv
    split at h
    · rename_i hu
      split at h
      · have hm : mx' = none := by cases mx' with | none => rfl | some => exact hmx.elim
        subst hm
        rw [notArr (by rw [hu]; intro _ _ e; cases e) _ hu]
        subst hs
        rw [ofBytes_size] at hn; subst hn
        exact sliceStr_sound hu h hlo hhi
      · cases h
    · cases h
  · split at h
    · rename_i e he
      split at h
      · rename_i sz hs
        have hu := elemOf_some he
        rw [notArr (by rw [hu]; intro _ _ e; cases e) _ hu]
        split at h
        · cases h
        · rename_i hne
          refine sliceSl_sound hu hs h hx hlo hhi hmx ?_
          cases mx with
          | none => exact .inl rfl
          | some m => cases hi with
            | none => exact absurd rfl (hne m rfl)
            | some => exact .inr (by simp)
      · cases h
    · cases h
  · split at h
    · rename_i e he
      split at h
      · rename_i sz hs
        have hu := elemOf_some he
        rw [notArr (by rw [hu]; intro _ _ e; cases e) _ hu]
        cases hx
        exact sliceNil_sound hu hs h hlo hhi hmx
      · cases h
    · cases h
  · rename_i b o
    cases hx with
    | ptr _ _ loc hb =>
    split at h
    · rename_i n e hu
      split at h
      · rename_i sz hs
        obtain ⟨l, hh, m, hbd, hv⟩ := sliceArr_sound (P := P) (w := w) hb h hlo hhi hmx
        refine ⟨_, ?_, hv⟩
        simp only [Instr.sliceAt, Sem.run_bind, r_und hu, Result.andThen_ok, Instr.sureAddr, Sem.run_pure, hbd, r_size hs]
      · cases h
    · rename_i a hu
      split at h
      · rename_i n e hua
        split at h
        · rename_i sz hs
          obtain ⟨l, hh, m, hbd, hv⟩ := sliceArr_sound (P := P) (w := w) hb h hlo hhi hmx
          refine ⟨_, ?_, hv⟩
          rw [notArr (by rw [hu]; intro _ _ e; cases e) _ hu]
          simp only [Instr.slice, Sem.run_bind, r_und hu, Result.andThen_ok, asAddr, Sem.run_pure, r_und hua, hbd, r_size hs]
        · cases h
      · cases h
    · cases h
  · cases h

-- LITERALS

theorem cells_sound {x : V} {x' : Value} {l : List V} (h : V.cells x = some l) (hx : VR ρ x x') : ∃ l', x'.cells = l'.toArray ∧ VRs ρ l l' ∧ allOne l = true := by
  cases hx with
  | agg l0 l' hv h1 => simp only [V.cells] at h; injection h with h; subst h; exact ⟨l', rfl, hv, h1⟩
  | tup => simp [V.cells] at h
  | bad => simp [V.cells] at h
  | bool b => simp only [V.cells] at h; injection h with h; subst h; exact ⟨[.bool b], rfl, .cons _ _ _ _ (.bool b) .nil, rfl⟩
  | int k n => simp only [V.cells] at h; injection h with h; subst h; exact ⟨[.int k n], rfl, .cons _ _ _ _ (.int k n) .nil, rfl⟩
  | str a n s h1 h2 => simp only [V.cells] at h; injection h with h; subst h; exact ⟨[.string s], rfl, .cons _ _ _ _ (.str a n s h1 h2) .nil, rfl⟩
  | ptr b o loc hb => simp only [V.cells] at h; injection h with h; subst h; exact ⟨[_], rfl, .cons _ _ _ _ (.ptr b o loc hb) .nil, rfl⟩
  | nilp => simp only [V.cells] at h; injection h with h; subst h; exact ⟨[_], rfl, .cons _ _ _ _ .nilp .nil, rfl⟩
  | rng k lo hi n h1 h2 => simp only [V.cells] at h; injection h with h; subst h; exact ⟨[_], rfl, .cons _ _ _ _ (.rng k lo hi n h1 h2) .nil, rfl⟩
  | slx b o n c loc hb hc => simp only [V.cells] at h; injection h with h; subst h; exact ⟨[_], rfl, .cons _ _ _ _ (.slx b o n c loc hb hc) .nil, rfl⟩
  | sle b o n c loc hb hc => simp only [V.cells] at h; injection h with h; subst h; exact ⟨[_], rfl, .cons _ _ _ _ (.sle b o n c loc hb hc) .nil, rfl⟩
  | nils => simp only [V.cells] at h; injection h with h; subst h; exact ⟨[_], rfl, .cons _ _ _ _ .nils .nil, rfl⟩
  | sl0 a c => simp only [V.cells] at h; injection h with h; subst h; exact ⟨[_], rfl, .cons _ _ _ _ (.sl0 a c) .nil, rfl⟩
  | map r loc hb => simp only [V.cells] at h; injection h with h; subst h; exact ⟨[_], rfl, .cons _ _ _ _ (.map r loc hb) .nil, rfl⟩
  | nilm => simp only [V.cells] at h; injection h with h; subst h; exact ⟨[_], rfl, .cons _ _ _ _ .nilm .nil, rfl⟩
  | fn f a c a' c' hf ha hc => simp only [V.cells] at h; injection h with h; subst h; exact ⟨[_], rfl, .cons _ _ _ _ (.fn f a c a' c' hf ha hc) .nil, rfl⟩
  | yield n loc hb => simp only [V.cells] at h; injection h with h; subst h; exact ⟨[_], rfl, .cons _ _ _ _ (.yield n loc hb) .nil, rfl⟩
  | nilf => simp only [V.cells] at h; injection h with h; subst h; exact ⟨[_], rfl, .cons _ _ _ _ .nilf .nil, rfl⟩
  | iface t v v' hv => simp only [V.cells] at h; injection h with h; subst h; exact ⟨[_], rfl, .cons _ _ _ _ (.iface t v v' hv) .nil, rfl⟩
  | nili => simp only [V.cells] at h; injection h with h; subst h; exact ⟨[_], rfl, .cons _ _ _ _ .nili .nil, rfl⟩

theorem setAll_toList : ∀ (vs : List Value) (o k : Nat) (c : Array Value), o + k + vs.length ≤ c.size →
    ((vs.zipIdx k).foldl (fun cs (x : Value × Nat) => cs.setIfInBounds (o + x.2) x.1) c).toList = c.toList.take (o + k) ++ (vs ++ c.toList.drop (o + k + vs.length)) := by
  intro vs
  induction vs with
  | nil => intro o k c h; simp
  | cons v vs ih =>
    intro o k c h
    simp only [List.length_cons] at h
    simp only [List.zipIdx_cons, List.foldl_cons]
    rw [ih o (k + 1) _ (by simp; omega)]
    have hlt : o + k < c.toList.length := by simp; omega
    simp only [Array.toList_setIfInBounds]
    have e1 : (c.toList.set (o + k) v).take (o + (k + 1)) = c.toList.take (o + k) ++ [v] := by
      rw [show o + (k + 1) = o + k + 1 by omega, List.take_succ_eq_append_getElem (by simpa using hlt)]
      simp [List.take_set_of_le]
    have e2 : (c.toList.set (o + k) v).drop (o + (k + 1) + vs.length) = c.toList.drop (o + k + (v :: vs).length) := by
      rw [List.drop_set_of_lt (by omega)]
      simp only [List.length_cons]
      congr 1; omega
    rw [e1, e2]
    simp

theorem fill_step {place : Nat → Option (Nat × Nat)} {i o s : Nat} {v : Value} {rest : List (Nat × Value)} {c : Array Value} {l : List Value} (hp : place i = some (o, s)) (hl : v.cells = l.toArray) (hs : l.length = s) (hb : o + l.length ≤ c.size) :
    Instr.fill place c ((i, v) :: rest) = Instr.fill place (c.toList.take o ++ (l ++ c.toList.drop (o + l.length))).toArray rest := by
  simp only [Instr.fill, hp]
  have e : v.cells.size = l.length := by rw [hl]; simp
  rw [if_neg (by simp [e, hs]; omega)]
  congr 1
  apply Array.ext'
  rw [hl]
  have := setAll_toList l o 0 c (by omega)
  simp only [Nat.add_zero] at this
  rw [← this]
  simp

theorem over_VRs {c xs r : List V} {c' xs' : List Value} {o : Nat} (h : over c o xs = some r) (hc : VRs ρ c c') (hx : VRs ρ xs xs') :
    o + xs'.length ≤ c'.length ∧ VRs ρ r (c'.take o ++ (xs' ++ c'.drop (o + xs'.length))) := by
  obtain ⟨h1, rfl⟩ := over_some h
  rw [hc.length, hx.length] at h1
  refine ⟨h1, ?_⟩
  rw [hx.length]
  exact (hc.take o).append (hx.append (hc.drop _))
theorem over_allOne {c xs r : List V} {o : Nat} (h : over c o xs = some r) (hc : allOne c = true) (hx : allOne xs = true) : allOne r = true := by
  obtain ⟨_, rfl⟩ := over_some h
  rw [allOne_iff] at *
  intro v hv
  rcases List.mem_append.1 hv with hv | hv
  · exact hc v (List.mem_of_mem_take hv)
  · rcases List.mem_append.1 hv with hv | hv
    · exact hx v hv
    · exact hc v (List.mem_of_mem_drop hv)
theorem over_length {c xs r : List V} {o : Nat} (h : over c o xs = some r) : r.length = c.length := by
  obtain ⟨h1, rfl⟩ := over_some h
  simp; omega

/-- literals' parts -/
def PsR (ρ : Rn) (a : List (Nat × V)) (b : List (Nat × Value)) : Prop := a.map (·.1) = b.map (·.1) ∧ VRs ρ (a.map (·.2)) (b.map (·.2))
theorem PsR.cons_inv {p : Nat × V} {a : List (Nat × V)} {b : List (Nat × Value)} (h : PsR ρ (p :: a) b) : ∃ v' b', b = (p.1, v') :: b' ∧ VR ρ p.2 v' ∧ PsR ρ a b' := by
  obtain ⟨h1, h2⟩ := h
  cases b with
  | nil => simp at h1
  | cons q b =>
    simp only [List.map_cons, List.cons.injEq] at h1
    cases h2 with
    | cons _ _ _ _ hv hs => exact ⟨q.2, b, by rw [h1.1], hv, h1.2, hs⟩

theorem placeA_sound {s : Nat} : ∀ (ps : List (Nat × V)) (ps' : List (Nat × Value)) (c r : List V) (c' : List Value), placeA s ps c = some r → PsR ρ ps ps' → VRs ρ c c' → allOne c = true →
    ∃ r', Instr.fill (fun i => some (i * s, s)) c'.toArray ps' = some r'.toArray ∧ VRs ρ r r' ∧ allOne r = true := by
  intro ps
  induction ps with
  | nil =>
    intro ps' c r c' h hp hc h1
    have : ps' = [] := by have := hp.1; cases ps' with | nil => rfl | cons => simp at this
    subst this
    simp only [placeA] at h; injection h with h; subst h
    exact ⟨c', rfl, hc, h1⟩
  | cons p ps ih =>
    intro ps' c r c' h hp hc h1
    obtain ⟨v', b', rfl, hv, hp'⟩ := hp.cons_inv
    change (match V.cells p.2 with
      | some l => match Nat.beq (llen l) s with
        | true => match over c (p.1 * s) l with
          | some c => placeA s ps c
          | none => none
        | false => none
      | none => none) = some r at h
    split at h
    · rename_i l hl
      split at h
      · rename_i hs
        rw [beq_nat, llen_eq] at hs
        split at h
        · rename_i c2 ho
          obtain ⟨l', hl', vl, ol⟩ := cells_sound hl hv
          obtain ⟨g1, g2⟩ := over_VRs ho hc vl
          obtain ⟨r', e1, e2, e3⟩ := ih b' c2 r _ h hp' g2 (over_allOne ho h1 ol)
          refine ⟨r', ?_, e2, e3⟩
          rw [fill_step (o := p.1 * s) (s := s) rfl hl' (by rw [← vl.length, hs]) (by simpa using g1)]
          exact e1
        · cases h
      · cases h
    · cases h

theorem placeS_sound {pl : List (Nat × Nat)} : ∀ (ps : List (Nat × V)) (ps' : List (Nat × Value)) (c r : List V) (c' : List Value), placeS pl ps c = some r → PsR ρ ps ps' → VRs ρ c c' → allOne c = true →
    ∃ r', Instr.fill (fun i => pl[i]?) c'.toArray ps' = some r'.toArray ∧ VRs ρ r r' ∧ allOne r = true := by
  intro ps
  induction ps with
  | nil =>
    intro ps' c r c' h hp hc h1
    have : ps' = [] := by have := hp.1; cases ps' with | nil => rfl | cons => simp at this
    subst this
    simp only [placeS] at h; injection h with h; subst h
    exact ⟨c', rfl, hc, h1⟩
  | cons p ps ih =>
    intro ps' c r c' h hp hc h1
    obtain ⟨v', b', rfl, hv, hp'⟩ := hp.cons_inv
    change (match nth pl p.1 with
      | some (o, n) => match V.cells p.2 with
        | some l => match Nat.beq (llen l) n with
          | true => match over c o l with
            | some c => placeS pl ps c
            | none => none
          | false => none
        | none => none
      | none => none) = some r at h
    split at h
    · rename_i o n hpl
      rw [nth_eq] at hpl
      split at h
      · rename_i l hl
        split at h
        · rename_i hs
          rw [beq_nat, llen_eq] at hs
          split at h
          · rename_i c2 ho
            obtain ⟨l', hl', vl, ol⟩ := cells_sound hl hv
            obtain ⟨g1, g2⟩ := over_VRs ho hc vl
            obtain ⟨r', e1, e2, e3⟩ := ih b' c2 r _ h hp' g2 (over_allOne ho h1 ol)
            refine ⟨r', ?_, e2, e3⟩
            rw [fill_step (o := o) (s := n) hpl hl' (by rw [← vl.length, hs]) (by simpa using g1)]
            exact e1
          · cases h
        · cases h
      · cases h
    · cases h

theorem placesL_run : ∀ (fs : List Field) (pl : List (Nat × Nat)), placesL P fs = some pl → (fs.mapM fun f => Prod.mk f.offset <$> sizeOf f.type).run P w = .ok pl w := by
  intro fs
  induction fs with
  | nil => intro pl h; simp only [placesL] at h; injection h with h; subst h; rfl
  | cons f fs ih =>
    intro pl h
    change (match szOf P f.type with
      | some n => match placesL P fs with
        | some r => some ((f.offset, n) :: r)
        | none => none
      | none => none) = some pl at h
    split at h
    · rename_i n hn
      split at h
      · rename_i r hr
        injection h with h; subst h
        simp [List.mapM_cons, r_size hn, ih r hr]
      · cases h
    · cases h
end Go.Ev
/- The operations that look at their operands alone are the model's: all of them. -/
namespace Go.Ev
open Go
variable {P : Program} {w : World} {ρ : Rn}

theorem ofS_sound {v : Value} {z : V} (h : ofS v = some z) : VR ρ z v ∧ V.one z = true := by
  unfold ofS at h
  split at h <;> first | (cases h; done) | skip
  · injection h with h; subst h; exact ⟨.bool _, rfl⟩
  · injection h with h; subst h; exact ⟨.int _ _, rfl⟩
  · injection h with h; subst h
    refine ⟨.str _ _ _ rfl ?_, rfl⟩
    rw [llen_eq, ofBytes, List.length_map]
  · injection h with h; subst h; exact ⟨.nilp, rfl⟩
  · split at h
    · injection h with h; subst h; exact ⟨.nils, rfl⟩
    · cases h
  · injection h with h; subst h; exact ⟨.nilm, rfl⟩
  · injection h with h; subst h; exact ⟨.nilf, rfl⟩
  · injection h with h; subst h; exact ⟨.nili, rfl⟩
theorem ofSs_sound : ∀ {l : List Value} {z : List V}, ofSs l = some z → VRs ρ z l ∧ allOne z = true := by
  intro l
  induction l with
  | nil => intro z h; simp only [ofSs] at h; injection h with h; subst h; exact ⟨.nil, rfl⟩
  | cons v l ih =>
    intro z h
    change (match ofS v with
      | some v => match ofSs l with
        | some l => some (v :: l)
        | none => none
      | none => none) = some z at h
    split at h
    · rename_i v' hv
      split at h
      · rename_i l' hl
        injection h with h; subst h
        obtain ⟨a, b⟩ := ofS_sound (ρ := ρ) hv
        obtain ⟨c, d⟩ := ih hl
        refine ⟨.cons _ _ _ _ a c, ?_⟩
        show (match V.one v' with | true => allOne l' | false => false) = true
        rw [b]; exact d
      · cases h
    · cases h
theorem ofV_sound {v : Value} {z : V} (h : ofV v = some z) : VR ρ z v := by
  unfold ofV at h
  split at h
  · split at h
    · rename_i cs l hl
      injection h with h; subst h
      obtain ⟨a, b⟩ := ofSs_sound (ρ := ρ) hl
      exact .agg _ _ a b
    · cases h
  · exact (ofS_sound h).1

theorem zeroOf_run {t : Nat} {z : V} (h : zeroOf P t = some z) : ∃ z', (zeroValue t).run P w = .ok z' w ∧ VR ρ z z' := by
  unfold zeroOf at h
  split at h
  · rename_i i hi
    split at h
    · rename_i v hv
      exact ⟨v, by simp [zeroValue, r_info hi, hv], ofV_sound h⟩
    · cases h
  · cases h
theorem zcells_run {t : Nat} {z : List V} (h : zcells P t = some z) : ∃ v z', (zeroValue t).run P w = .ok v w ∧ v.cells = z'.toArray ∧ VRs ρ z z' ∧ allOne z = true := by
  unfold zcells at h
  split at h
  · rename_i y hy
    obtain ⟨v, hv, hr⟩ := zeroOf_run (w := w) (ρ := ρ) hy
    obtain ⟨l', a, b, c⟩ := cells_sound h hr
    exact ⟨v, l', hv, a, b, c⟩
  · cases h

theorem buildV_sound {t : Nat} {ps : List (Nat × V)} {ps' : Array (Nat × Value)} {v : V} (h : buildV P t ps = some v) (hp : PsR ρ ps ps'.toList) : PS P w ρ (Instr.build t ps') v := by
  unfold PS
  unfold buildV at h
  split at h
  · rename_i z hz
    obtain ⟨v0, z', r0, c0, vz, oz⟩ := zcells_run (w := w) (ρ := ρ) hz
    split at h
    · rename_i fs hu
      split at h
      · rename_i pl hpl
        split at h
        · rename_i c hc
          injection h with h; subst h
          obtain ⟨r', e1, e2, e3⟩ := placeS_sound _ _ _ _ _ hc hp vz oz
          refine ⟨.agg r'.toArray, ?_, .agg _ _ e2 e3⟩
          have hpl' : placesL P fs.toList = some pl := by
            unfold placesOf at hpl; rw [hu] at hpl; exact hpl
          have hm := placesL_run (w := w) _ _ hpl'
          simp only [Instr.build, Sem.run_bind, r0, Result.andThen_ok, r_und hu, Array.mapM_eq_mapM_toList]
          have hm2 : (List.toArray <$> List.mapM (fun f => (do let __do_lift ← sizeOf f.type; pure (f.offset, __do_lift) : Sem (Nat × Nat))) fs.toList : Sem (Array (Nat × Nat))).run P w = .ok pl.toArray w := by
            have : (fun f : Field => (do let __do_lift ← sizeOf f.type; pure (f.offset, __do_lift) : Sem (Nat × Nat))) = fun f => Prod.mk f.offset <$> sizeOf f.type := by
              funext f; rfl
            rw [this, Sem.run_map, hm]; rfl
          rw [hm2]
          simp only [Result.andThen_ok, c0]
          have hf : (fun x : Nat => pl.toArray[x]?) = fun i : Nat => pl[i]? := by funext i; simp
          rw [hf, e1]
          rfl
        · cases h
      · cases h
    · rename_i n e hu
      split at h
      · rename_i s hs
        split at h
        · rename_i c hc
          injection h with h; subst h
          obtain ⟨r', e1, e2, e3⟩ := placeA_sound _ _ _ _ _ hc hp vz oz
          refine ⟨.agg r'.toArray, ?_, .agg _ _ e2 e3⟩
          simp only [Instr.build, Sem.run_bind, r0, Result.andThen_ok, r_und hu, r_size hs, c0, e1]
          rfl
        · cases h
      · cases h
    · cases h
  · cases h

theorem assertV_sound {x : V} {x' : Value} {xt u : Nat} {ok : Bool} {v : V} (h : assertV P x xt u ok = some v) (hx : VR ρ x x') : PS P w ρ (Instr.typeAssert x' xt u ok) v := by
  unfold PS
  unfold assertV at h
  split at h
  · cases h
  · cases h
  · rename_i d hn hu
    have pair : ∀ (a : V) (a' : Value) (b : Bool), VR ρ a a' → VR ρ (.tup [a, .bool b]) (.tuple #[a', .bool b]) := fun a a' b ha =>
      .tup _ [a', .bool b] (.cons _ _ _ _ ha (.cons _ _ _ _ (.bool b) .nil))
    split at h
    · rename_i t v0
      cases hx with
      | iface _ _ v1 hv =>
      split at h
      · rename_i htu
        rw [beq_nat] at htu; subst htu
        split at h
        · injection h with h; subst h
          refine ⟨_, ?_, pair _ _ _ hv⟩
          simp only [Instr.typeAssert, Sem.run_bind, r_und hu, Result.andThen_ok]
          cases d <;> first | (simp; done) | exact absurd rfl (hn _)
        · injection h with h; subst h
          refine ⟨v1, ?_, hv⟩
          simp only [Instr.typeAssert, Sem.run_bind, r_und hu, Result.andThen_ok]
          cases d <;> first | (simp; done) | exact absurd rfl (hn _)
      · rename_i htu
        rw [beq_nat_false] at htu
        split at h
        · split at h
          · rename_i z hz
            injection h with h; subst h
            obtain ⟨z', rz, vz⟩ := zeroOf_run (w := w) (ρ := ρ) hz
            refine ⟨_, ?_, pair _ _ _ vz⟩
            simp only [Instr.typeAssert, Sem.run_bind, r_und hu, Result.andThen_ok]
            cases d <;> first | (simp [htu, rz]; done) | exact absurd rfl (hn _)
          · cases h
        · cases h
    · cases hx
      split at h
      · split at h
        · rename_i z hz
          injection h with h; subst h
          obtain ⟨z', rz, vz⟩ := zeroOf_run (w := w) (ρ := ρ) hz
          refine ⟨_, ?_, pair _ _ _ vz⟩
          simp only [Instr.typeAssert, Sem.run_bind, r_und hu, Result.andThen_ok]
          cases d <;> first | (simp [rz]; done) | exact absurd rfl (hn _)
        · cases h
      · cases h
    · cases h

theorem convP_sound {s d : Nat} {x : V} {x' : Value} {v : V} (h : convP P s d x = some v) (hx : VR ρ x x') : PS P w ρ (convert s d x') v := by
  unfold PS
  unfold convP at h
  split at h
  · rename_i k n
    rw [hx.int_inv]
    split at h
    · rename_i ds hs
      split at h
      · rename_i j hj
        injection h with h; subst h
        have hu : P.underlying d = some (.int j) := by
          unfold kindOf at hj; split at hj
          · injection hj with hj; subst hj; assumption
          · cases hj
        refine ⟨.int j (j.wrap n), ?_, .int _ _⟩
        simp only [convert, Sem.run_bind, r_und hs, r_und hu, Result.andThen_ok]
        rfl
      · cases h
    · cases h
  · rename_i l n
    split at h
    · rename_i hs
      split at h
      · rename_i hd
        injection h with h; subst h
        obtain ⟨s', rfl, a, b⟩ := hx.str_inv
        refine ⟨.string s', ?_, hx⟩
        simp only [convert, Sem.run_bind, r_und hs, r_und hd, Result.andThen_ok]
        rfl
      · cases h
    · cases h
  · cases h

/-- a run, by its first step -/
theorem run_of_bind {α β : Type} {s : Sem β} {a : Sem α} {f : α → Sem β} (h : s = a >>= f) : s.run P w = (a.run P w).andThen fun x w' => (f x).run P w' := by
  rw [h]; exact Sem.run_bind P w a f
theorem lenP_sound {t ty : Nat} {ts : Array TypeId} {x : V} {x' : Value} {v : V} (h : lenP P t x = some v) (ht : ts[0]? = some t) (hx : VR ρ x x') : PS P w ρ (Builtin.len_ ts ty #[x']) v := by
  unfold PS
  rw [run_of_bind (s := Builtin.len_ ts ty #[x']) (a := underlying t) (by simp only [Builtin.len_, ht]; rfl)]
  unfold lenP at h
  split at h
  · rename_i hu
    split at h
    · rename_i l n
      obtain ⟨s', rfl, a, b⟩ := hx.str_inv
      injection h with h; subst h
      refine ⟨_, by simp only [r_und hu, Result.andThen_ok]; rfl, ?_⟩
      rw [← b, ← a, ofBytes_size]; exact .int _ _
    · cases h
  · rename_i e hu
    split at h
    · injection h with h; subst h
      cases hx with
      | slx => exact ⟨_, by simp only [r_und hu, Result.andThen_ok]; rfl, .int _ _⟩
      | sle => exact ⟨_, by simp only [r_und hu, Result.andThen_ok]; rfl, .int _ _⟩
    · injection h with h; subst h
      cases hx
      exact ⟨_, by simp only [r_und hu, Result.andThen_ok]; rfl, .int _ _⟩
    · injection h with h; subst h
      cases hx
      exact ⟨_, by simp only [r_und hu, Result.andThen_ok]; rfl, .int _ _⟩
    · cases h
  · rename_i n e hu
    injection h with h; subst h
    exact ⟨_, by simp only [r_und hu, Result.andThen_ok]; rfl, .int _ _⟩
  · rename_i a hu
    split at h
    · rename_i n e hua
      injection h with h; subst h
      exact ⟨_, by simp only [Sem.run_bind, r_und hu, Result.andThen_ok, r_und hua]; rfl, .int _ _⟩
    · cases h
  · rename_i e f hu
    split at h
    · injection h with h; subst h
      cases hx
      exact ⟨_, by simp only [r_und hu, Result.andThen_ok]; rfl, .int _ _⟩
    · cases h
  · cases h

theorem maxI_eq (a b : Int) : maxI a b = if b > a then b else a := by
  unfold maxI; rw [ile_eq]; by_cases h : b ≤ a
  · simp [h, show ¬ b > a by omega]
  · simp [h, show b > a by omega]
theorem minI_eq (a b : Int) : minI a b = if b < a then b else a := by
  unfold minI; rw [ile_eq]; by_cases h : a ≤ b
  · simp [h, show ¬ b < a by omega]
  · simp [h, show b < a by omega]
theorem VRs.one_inv {a : V} {l' : List Value} (h : VRs ρ [a] l') : ∃ a', l' = [a'] ∧ VR ρ a a' := by
  cases h with
  | cons _ v' _ l'' hv hs => cases hs; exact ⟨v', rfl, hv⟩
theorem VRs.two_inv {a b : V} {l' : List Value} (h : VRs ρ [a, b] l') : ∃ a' b', l' = [a', b'] ∧ VR ρ a a' ∧ VR ρ b b' := by
  cases h with
  | cons _ v' _ l'' hv hs => obtain ⟨b', rfl, hb⟩ := hs.one_inv; exact ⟨v', b', rfl, hv, hb⟩
theorem VRs.three_inv {a b c : V} {l' : List Value} (h : VRs ρ [a, b, c] l') : ∃ a' b' c', l' = [a', b', c'] ∧ VR ρ a a' ∧ VR ρ b b' ∧ VR ρ c c' := by
  cases h with
  | cons _ v' _ l'' hv hs => obtain ⟨b', c', rfl, hb, hc⟩ := hs.two_inv; exact ⟨v', b', c', rfl, hv, hb, hc⟩

theorem maxP_sound {ts : Array TypeId} {ty : Nat} {l : List V} {l' : List Value} {v : V} (h : maxP l = some v) (hl : VRs ρ l l') : PS P w ρ (Builtin.max_ ts ty l'.toArray) v := by
  unfold PS
  unfold maxP at h
  split at h
  · rename_i k a j b
    split at h
    · rename_i hk
      have := sameK_eq hk; subst this
      injection h with h; subst h
      obtain ⟨a', b', rfl, h1, h2⟩ := hl.two_inv
      rw [h1.int_inv, h2.int_inv]
      refine ⟨_, ?_, by rw [maxI_eq]; exact .int _ _⟩
      simp [Builtin.max_, Builtin.max2]
    · cases h
  · rename_i k a j b i c
    split at h
    · rename_i hk1 hk2
      have := sameK_eq hk1; subst this
      have := sameK_eq hk2; subst this
      injection h with h; subst h
      obtain ⟨a', b', c', rfl, h1, h2, h3⟩ := hl.three_inv
      rw [h1.int_inv, h2.int_inv, h3.int_inv]
      refine ⟨_, ?_, by rw [maxI_eq, maxI_eq]; exact .int _ _⟩
      simp [Builtin.max_, Builtin.max2]
    · cases h
  · cases h
theorem minP_sound {ts : Array TypeId} {ty : Nat} {l : List V} {l' : List Value} {v : V} (h : minP l = some v) (hl : VRs ρ l l') : PS P w ρ (Builtin.min_ ts ty l'.toArray) v := by
  unfold PS
  unfold minP at h
  split at h
  · rename_i k a j b
    split at h
    · rename_i hk
      have := sameK_eq hk; subst this
      injection h with h; subst h
      obtain ⟨a', b', rfl, h1, h2⟩ := hl.two_inv
      rw [h1.int_inv, h2.int_inv]
      refine ⟨_, ?_, by rw [minI_eq]; exact .int _ _⟩
      simp [Builtin.min_, Builtin.min2]
    · cases h
  · cases h
theorem data_slice {ts : Array TypeId} {ty : Nat} {a : Addr} {n c : Nat} (hc : c ≠ 0) : (Builtin.unsafeSliceData_ ts ty [Value.slice (some a) n c].toArray).run P w = .ok (.pointer (some a)) w := by
  obtain ⟨k, rfl⟩ : ∃ k, c = k + 1 := ⟨c - 1, by omega⟩
  rfl
theorem data_nil {ts : Array TypeId} {ty : Nat} {n c : Nat} : (Builtin.unsafeSliceData_ ts ty [Value.slice none n c].toArray).run P w = .ok (.pointer none) w := rfl
theorem dataP_sound {ts : Array TypeId} {ty : Nat} {l : List V} {l' : List Value} {v : V} (h : dataP l = some v) (hl : VRs ρ l l') : PS P w ρ (Builtin.unsafeSliceData_ ts ty l'.toArray) v := by
  unfold PS
  unfold dataP at h
  split at h
  · rename_i b o n c
    injection h with h; subst h
    obtain ⟨a', rfl, h1⟩ := hl.one_inv
    cases h1 with
    | slx _ _ _ _ loc hb hc => exact ⟨_, data_slice (by omega), .ptr _ _ _ hb⟩
  · rename_i b o n d
    injection h with h; subst h
    obtain ⟨a', rfl, h1⟩ := hl.one_inv
    cases h1 with
    | sle _ _ _ _ loc hb hc => exact ⟨_, data_slice (by omega), .ptr _ _ _ hb⟩
  · injection h with h; subst h
    obtain ⟨a', rfl, h1⟩ := hl.one_inv
    cases h1
    exact ⟨_, data_nil, .nilp⟩
  · cases h
end Go.Ev
/- An operation that looks at its operands alone. -/
namespace Go.Ev
open Go
variable {P : Program} {w : World} {ρ : Rn}

/-- the program's variables stand where they stand -/
def GlR (P : Program) (ρ : Rn) : Prop := ∀ g, g < P.globals.size → ∃ tot, ρ g = some ⟨g, 0, tot⟩
theorem GlR.mono {ρ ρ' : Rn} (h : GlR P ρ) (hle : ρ.le ρ') : GlR P ρ' := fun g hg => let ⟨t, e⟩ := h g hg; ⟨t, hle _ _ e⟩

theorem VRs.map {α : Type} {f : α → V} {g : α → Value} {l : List α} (h : ∀ x ∈ l, VR ρ (f x) (g x)) : VRs ρ (l.map f) (l.map g) := by
  induction l with
  | nil => exact .nil
  | cons a l ih => exact .cons _ _ _ _ (h a (by simp)) (ih fun x hx => h x (by simp [hx]))

theorem tmp_sound {tm : T V} {n : Nat} {tmps : Array Value} (h : TmR ρ tm n tmps) (t : Nat) (hb : n ≤ t → tm.get t = none) : VR ρ (tmpV tm t) (tmps.getD t undef) := by
  by_cases ht : t < n
  · exact h.2 t ht
  · have : tmps.getD t undef = undef := by simp [Array.getD, h.1, ht]
    rw [this]
    unfold tmpV
    rw [hb (by omega)]
    exact .tup _ [] .nil

/-- operands -/
theorem opd_sound {tm : T V} {ev : Operand → Value} (hg : GlR P ρ) (ht : ∀ t, VR ρ (tmpV tm t) (ev (.tmp t))) (hc : ∀ v, ev (.const v) = v) (hgl : ∀ g, ev (.global g) = .pointer (some ⟨g, 0, none⟩)) (hf : ∀ f, ev (.func f) = .func (.func f) #[] #[])
    (x : Operand) : VR ρ (opd P tm x) (ev x) := by
  cases x with
  | tmp t => exact ht t
  | const v =>
    rw [hc]
    simp only [opd]
    split
    · rename_i z hz; exact ofV_sound hz
    · exact .bad _
  | global g =>
    rw [hgl]
    simp only [opd]
    split
    · rename_i h
      obtain ⟨t, e⟩ := hg g (blt_nat.1 h)
      have := VR.ptr (ρ := ρ) g 0 _ e
      exact this
    · exact .bad _
  | func f => rw [hf]; exact .fn (.func f) [] [] [] [] (fun _ h => by cases h) .nil .nil

theorem opds_sound {tm : T V} {ev : Operand → Value} (h : ∀ x, VR ρ (opd P tm x) (ev x)) (l : Array Operand) : VRs ρ (opds P tm l.toList) (l.map ev).toList := by
  unfold opds
  rw [lmap_eq, Array.toList_map]
  exact VRs.map fun x _ => h x
theorem parts_sound {tm : T V} {ev : Operand → Value} (h : ∀ x, VR ρ (opd P tm x) (ev x)) (l : Array (Nat × Operand)) : PsR ρ (parts P tm l.toList) (l.map fun (i, x) => (i, ev x)).toList := by
  unfold parts
  rw [lmap_eq, Array.toList_map]
  refine ⟨by simp [Function.comp_def], ?_⟩
  rw [List.map_map, List.map_map]
  exact VRs.map fun x _ => h x.2
theorem opdO_sound {tm : T V} {ev : Operand → Value} (h : ∀ x, VR ρ (opd P tm x) (ev x)) (x : Option Operand) : VRo ρ (opdO P tm x) (x.map ev) := by
  cases x with
  | none => trivial
  | some x => exact h x

theorem builtin_value {b : Builtin} {s : Sem Value} {ats : Array TypeId} {ty : TypeId} {cs : Array Bool} {args : Array Value} (hb : builtin b ats ty cs args = (do pure (.value (← s)))) {v : V} (h : PS P w ρ s v) :
    ∃ v', (builtin b ats ty cs args).run P w = .ok (.value v') w ∧ VR ρ v v' := by
  obtain ⟨v', e, r⟩ := h
  exact ⟨v', by rw [hb]; simp [e], r⟩

theorem nilChk_sound {o : Oper} {x : Operand} {ev : Operand → Value} {y : V} {v : V} (ho : o.op = .nilCheck x) (h : nilChk y = some v) (hx : VR ρ y (ev x)) : ∃ v', (execOp ev o).run P w = .ok (.value v') w ∧ VR ρ v v' := by
  have hne : v = y := by
    unfold nilChk at h
    split at h <;> first | (cases h; done) | (injection h with h; exact h.symm)
  subst hne
  refine ⟨ev x, ?_, hx⟩
  unfold execOp
  rw [ho]
  simp only []
  generalize ev x = e at hx
  cases hx <;> first | (simp [nilChk] at h; done) | rfl | skip
  rename_i f a c a' c' hf ha hc
  cases f <;> first | (simp [nilChk] at h; done) | rfl

/-- THE OPERATIONS THAT LOOK AT THEIR OPERANDS ALONE -/
theorem opP_sound {o : Oper} {tm : T V} {ev : Operand → Value} {v : V} (hk : kd P o.op = .p) (h : opP P tm o.op = some v) (hx : ∀ x, VR ρ (opd P tm x) (ev x)) :
    ∃ v', (execOp ev o).run P w = .ok (.value v') w ∧ VR ρ v v' := by
  obtain ⟨dst, op, ty, pos, after, guard⟩ := o
  have val : ∀ (s : Sem Value), PS P w ρ s v → ∃ v', (do pure (.value (← s)) : Sem Next).run P w = .ok (.value v') w ∧ VR ρ v v' := fun s ⟨v', e, r⟩ => ⟨v', by simp [e], r⟩
  cases op <;> simp only [opP] at h <;> first | (cases h; done) | skip
  case move x => injection h with h; subst h; exact ⟨ev x, rfl, hx x⟩
  case assign x => injection h with h; subst h; exact ⟨ev x, rfl, hx x⟩
  case pick c a b =>
    obtain ⟨v', e, r⟩ := pickV_sound (P := P) (w := w) h (hx c) (hx a) (hx b)
    refine ⟨v', ?_, r⟩
    simp only [execOp]
    simp only [Sem.run_bind, Sem.run_pure] at e ⊢
    cases hb : (asBool (ev c)).run P w with
    | ok a w1 => rw [hb] at e; simp only [Result.andThen_ok] at e ⊢; injection e with e1 e2; rw [e1, e2]
    | halt a w1 => rw [hb] at e; cases e
  case build t ps => exact val _ (buildV_sound h (parts_sound hx ps))
  case nilCheck x => exact nilChk_sound rfl h (hx x)
  case binOp op t x y yt => exact val _ (binV_sound h (hx x) (hx y))
  case unOp op t x => exact val _ (unV_sound h (hx x))
  case makeInterface t x => exact val _ (faceV_sound h (hx x))
  case makeFunc f a b =>
    split at h
    · cases h
    · rename_i hf
      injection h with h; subst h
      refine ⟨.func f (a.map ev) (b.map ev), rfl, ?_⟩
      have := VR.fn (ρ := ρ) f _ _ _ _ (by rintro x rfl; exact hf x rfl) (opds_sound hx a) (opds_sound hx b)
      simp only [Array.toArray_toList] at this
      exact this
  case slice t x lo hi mx => exact val _ (sliceV_sound h (hx x) (opdO_sound hx lo) (opdO_sound hx hi) (opdO_sound hx mx))
  case fieldAddr t x f => exact val _ (fieldAtV_sound h (hx x))
  case field t x f => exact val _ (fieldV_sound h (hx x))
  case indexAddr t x i =>
    split at h
    · rename_i n hn
      obtain ⟨k, e⟩ := natOf_sound hn (hx i)
      refine val _ ?_
      rw [e]
      exact indexAtV_sound h (hx x)
    · cases h
  case index t x i =>
    split at h
    · rename_i n hn
      obtain ⟨k, e⟩ := natOf_sound hn (hx i)
      refine val _ ?_
      rw [e]
      exact indexV_sound h (hx x)
    · cases h
  case typeAssert x t u ok => exact val _ (assertV_sound h (hx x))
  case extract t i => exact val _ (extractV_sound h (hx t))
  case convert s d x => exact val _ (convP_sound h (hx x))
  case call c =>
    obtain ⟨callee, args, ats⟩ := c
    unfold callP at h
    cases callee with
    | value f => simp only at h; cases h
    | invoke r n => simp only at h; cases h
    | builtin b =>
      simp only at h
      have hargs := opds_sound hx args
      have hex : ∀ s : Sem Value, (∀ cs, builtin b ats ty cs (args.map ev) = (do pure (.value (← s)))) → PS P w ρ s v →
          ∃ v', (execOp ev ⟨dst, .call ⟨.builtin b, args, ats⟩, ty, pos, after, guard⟩).run P w = .ok (.value v') w ∧ VR ρ v v' := by
        intro s hs hp
        obtain ⟨v', e, r⟩ := hp
        refine ⟨v', ?_, r⟩
        simp only [execOp, resolve, Sem.run_bind, Sem.run_pure, Result.andThen_ok, invoke, hs]
        simp [e]
      cases b <;> simp only [builtinP] at h <;> first | (cases h; done) | skip
      case len =>
        cases hat : ats.toList with
        | nil => rw [hat] at h; cases h
        | cons t ts =>
          rw [hat] at h
          simp only at h
          split at h
          · rename_i x hl
            rw [hl] at hargs
            obtain ⟨x', e, hv⟩ := hargs.one_inv
            have e2 : args.map ev = #[x'] := by apply Array.ext'; simpa using e
            have ht : ats[0]? = some t := by rw [← Array.getElem?_toList, hat]; rfl
            refine hex (Builtin.len_ ats ty #[x']) (fun cs => ?_) (lenP_sound h ht hv)
            rw [e2]
            rfl
          · cases h
      case max =>
        refine hex (Builtin.max_ ats ty (args.map ev)) (fun cs => rfl) ?_
        have := maxP_sound (P := P) (w := w) (ρ := ρ) (ts := ats) (ty := ty) h hargs
        rw [Array.toArray_toList] at this
        exact this
      case min =>
        refine hex (Builtin.min_ ats ty (args.map ev)) (fun cs => rfl) ?_
        have := minP_sound (P := P) (w := w) (ρ := ρ) (ts := ats) (ty := ty) h hargs
        rw [Array.toArray_toList] at this
        exact this
      case unsafeSliceData =>
        have := dataP_sound (P := P) (w := w) (ρ := ρ) (ts := ats) (ty := ty) h hargs
        rw [Array.toArray_toList] at this
        exact hex _ (fun cs => rfl) this
end Go.Ev
/- The reads are the model's. -/
namespace Go.Ev
open Go
variable {P : Program} {w : World} {ρ : Rn}

theorem cell_at {b i e : Nat} {cs : Array Value} {fz : Nat × Nat} (h : w.heap[b]? = some (.cells cs e fz)) : w.cell? ⟨b, i, none⟩ = cs[i]? := by
  simp [World.cell?, h]

/-- what is known of a block's cells -/
theorem BR.cells {cl : T Cl} {b : B} {loc : Loc} {c : List V} (h : BR P ρ cl b loc w) (hc : cellsB b = some c) :
    ∃ cs e fz, w.heap[loc.blk]? = some (.cells cs e fz) ∧ CellsAt ρ cs loc.sh c ∧ allOne c = true := by
  cases b with
  | cells c' e k =>
    simp only [cellsB] at hc; injection hc with hc; subst hc
    cases k with
    | zero => obtain ⟨h1, h2, cs, h3, h4, h5⟩ := h; exact ⟨cs, e, _, h3, h1 ▸ h5, h2⟩
    | succ k => obtain ⟨h1, cs, fz, h3, h4, h5, h6, h7, h8⟩ := h; exact ⟨cs, e, fz, h3, h7, h1⟩
  | ro c' =>
    cases c' with
    | nil => cases hc
    | cons v0 c' =>
      simp only [cellsB] at hc; injection hc with hc; subst hc
      obtain ⟨h2, h3⟩ := h
      rcases h3 with h3 | ⟨h1, cs, e, fz, h3, h4⟩
      · cases h3
      · exact ⟨cs, e, fz, h3, h1 ▸ h4, h2⟩
  | _ => simp [cellsB] at hc

theorem CellsAt.list {cs : Array Value} {sh : Nat} {c : List V} (h : CellsAt ρ cs sh c) {o n : Nat} (hn : o + n ≤ c.length) :
    VRs ρ ((c.drop o).take n) ((cs.toList.drop (sh + o)).take n) ∧ ((cs.toList.drop (sh + o)).take n).length = n ∧ ∀ j v, ((cs.toList.drop (sh + o)).take n)[j]? = some v → cs[sh + o + j]? = some v := by
  have hlen : ((cs.toList.drop (sh + o)).take n).length = n := by
    rw [List.length_take, List.length_drop]
    rcases Nat.eq_zero_or_pos n with h0 | h0
    · omega
    · have hlt : o + n - 1 < c.length := by omega
      obtain ⟨v', hv, _⟩ := h (o + n - 1) c[o + n - 1] (by simp [hlt])
      have : sh + (o + n - 1) < cs.size := by
        rcases Nat.lt_or_ge (sh + (o + n - 1)) cs.size with h | h
        · exact h
        · rw [Array.getElem?_eq_none h] at hv; cases hv
      have e : cs.toList.length = cs.size := by simp
      omega
  have hget : ∀ j v, ((cs.toList.drop (sh + o)).take n)[j]? = some v → cs[sh + o + j]? = some v := by
    intro j v hj
    rw [List.getElem?_take] at hj
    split at hj
    · rw [List.getElem?_drop] at hj
      simpa using hj
    · cases hj
  refine ⟨VRs.of_get ?_ ?_, hlen, hget⟩
  · rw [hlen, List.length_take, List.length_drop]; omega
  · intro i v hi
    rw [List.getElem?_take] at hi
    split at hi
    · rename_i hin
      rw [List.getElem?_drop] at hi
      obtain ⟨v', hv, hr⟩ := h _ _ hi
      refine ⟨v', ?_, hr⟩
      rw [List.getElem?_take, if_pos hin, List.getElem?_drop]
      rw [← Nat.add_assoc] at hv
      simpa using hv
    · cases hi

theorem loadList {b e : Nat} {cs : Array Value} {fz : Nat × Nat} {sh o n : Nat} {c : List V} (hb : w.heap[b]? = some (.cells cs e fz)) (h : CellsAt ρ cs sh c) (hn : o + n ≤ c.length) :
    (loadCells ⟨b, sh + o, none⟩ n).run P w = .ok ((cs.toList.drop (sh + o)).take n).toArray w := by
  obtain ⟨h1, h2, h3⟩ := h.list hn
  have := run_loadCells_list (P := P) (w := w) ⟨b, sh + o, none⟩ ((cs.toList.drop (sh + o)).take n) (fun j v hj => by rw [add_off, cell_at hb]; exact h3 j v hj)
  rw [h2] at this
  exact this

theorem loadB_sound {cl : T Cl} {b : B} {loc : Loc} {t o : Nat} {v : V} (h : BR P ρ cl b loc w) (hl : loadB P t o b = some v) :
    ∃ v', (loadVar t ⟨loc.blk, loc.sh + o, none⟩).run P w = .ok v' w ∧ VR ρ v v' := by
  unfold loadB at hl
  split at hl
  · rename_i c hc
    obtain ⟨cs, e, fz, hb, hca, h1⟩ := h.cells hc
    unfold partV at hl
    split at hl
    · rename_i ha
      split at hl
      · rename_i n hn
        split at hl
        · rename_i l hs
          injection hl with hl; subst hl
          obtain ⟨hle, rfl⟩ := sub_some hs
          refine ⟨.agg ((cs.toList.drop (loc.sh + o)).take n).toArray, ?_, .agg _ _ (hca.list hle).1 (allOne_sub h1 o n)⟩
          simp only [loadVar, Sem.run_bind, r_isAgg ha, Result.andThen_ok, if_true, r_size hn, loadList hb hca hle]
          rfl
        · cases hl
      · cases hl
    · rename_i ha
      rw [nth_eq] at hl
      obtain ⟨v', hv, hr⟩ := hca _ _ hl
      refine ⟨v', ?_, hr⟩
      simp only [loadVar, Sem.run_bind, r_isAgg ha, Result.andThen_ok, Bool.false_eq_true, if_false, run_load, cell_at hb, hv]
    · cases hl
  · cases hl

theorem getB_some {id : Nat} {h h' : H} {b : B} (e : getB id h = some (b, h')) : h' = h ∧ h.bs.get id = some b := by
  obtain ⟨n, gs, wr, bs, cl⟩ := h
  simp only [getB] at e
  split at e
  · rename_i b' hb; injection e with e; injection e with e1 e2; subst e1; exact ⟨e2.symm, hb⟩
  · cases e
theorem getC_some {k : Nat} {h h' : H} {c : Cl} (e : getC k h = some (c, h')) : h' = h ∧ h.cl.get k = some c := by
  obtain ⟨n, gs, wr, bs, cl⟩ := h
  simp only [getC] at e
  split at e
  · rename_i b' hb; injection e with e; injection e with e1 e2; subst e1; exact ⟨e2.symm, hb⟩
  · cases e
theorem bind_some {α β : Type} {m : M α} {f : α → M β} {h h' : H} {b : β} (e : M.bind m f h = some (b, h')) : ∃ a h1, m h = some (a, h1) ∧ f a h1 = some (b, h') := by
  unfold M.bind at e
  split at e
  · rename_i x hx
    obtain ⟨a, h1⟩ := x
    exact ⟨a, h1, hx, e⟩
  · cases e
theorem pure_some {α : Type} {a b : α} {h h' : H} (e : M.pure a h = some (b, h')) : b = a ∧ h' = h := by
  unfold M.pure at e; injection e with e; injection e with e1 e2; exact ⟨e1.symm, e2.symm⟩
theorem lift_some {α : Type} {o : Option α} {b : α} {h h' : H} (e : M.lift o h = some (b, h')) : o = some b ∧ h' = h := by
  unfold M.lift at e
  split at e
  · obtain ⟨a, c⟩ := pure_some e; exact ⟨by rw [a], c⟩
  · cases e
theorem live_some {id a l : Nat} {fz : Bool} (h : live id (.mk a l fz) = true) : id = a ∨ id = l := by
  unfold live at h
  simp only at h
  split at h
  · rename_i h1; exact .inl (beq_nat.1 h1)
  · exact .inr (beq_nat.1 h)

theorem getL_some {id : Nat} {h h' : H} {b : B} (e : getL id h = some (b, h')) : h' = h ∧ h.bs.get id = some b ∧ Lv h.cl id b := by
  unfold getL at e
  obtain ⟨b0, h1, e1, e2⟩ := bind_some e
  obtain ⟨rfl, hb⟩ := getB_some e1
  split at e2
  · rename_i c e0 k
    split at e2
    · obtain ⟨rfl, rfl⟩ := pure_some e2; exact ⟨rfl, hb, trivial⟩
    · rename_i k
      obtain ⟨s, h2, e3, e4⟩ := bind_some e2
      obtain ⟨rfl, hs⟩ := getC_some e3
      generalize hl : live id s = x at e4
      cases x with
      | true =>
        obtain ⟨rfl, rfl⟩ := pure_some e4
        obtain ⟨a, l, fz⟩ := s
        exact ⟨rfl, hb, a, l, fz, hs, live_some hl⟩
      | false => cases e4
  · rename_i hne
    obtain ⟨rfl, rfl⟩ := pure_some e2
    refine ⟨rfl, hb, ?_⟩
    cases b with
    | cells c0 e0 k => exact absurd rfl (hne c0 e0 k)
    | _ => trivial
theorem cellsOf_some {id : Nat} {h h' : H} {c : List V} {e k : Nat} (x : cellsOf id h = some ((c, e, k), h')) :
    h' = h ∧ ∃ b, h.bs.get id = some b ∧ Lv h.cl id b ∧ cellsB b = some c ∧ (b = .cells c e k ∨ (b = .ro c ∧ e = 0 ∧ k = 0)) := by
  unfold cellsOf at x
  obtain ⟨b0, h1, e1, e2⟩ := bind_some x
  obtain ⟨rfl, hb⟩ := getB_some e1
  split at e2
  · rename_i c0 e0 k0
    split at e2
    · obtain ⟨p, rfl⟩ := pure_some e2
      injection p with p1 p2; injection p2 with p2 p3
      subst p1; subst p2; subst p3
      exact ⟨rfl, _, hb, trivial, rfl, .inl rfl⟩
    · rename_i k1
      obtain ⟨s, h2, e3, e4⟩ := bind_some e2
      obtain ⟨rfl, hs⟩ := getC_some e3
      generalize hl : live id s = x at e4
      cases x with
      | true =>
        obtain ⟨p, rfl⟩ := pure_some e4
        injection p with p1 p2; injection p2 with p2 p3
        subst p1; subst p2; subst p3
        obtain ⟨a, l, fz⟩ := s
        exact ⟨rfl, _, hb, ⟨a, l, fz, hs, live_some hl⟩, rfl, .inl rfl⟩
      | false => cases e4
  · rename_i c0
    cases c0 with
    | nil => cases e2
    | cons v0 c0 =>
      obtain ⟨p, rfl⟩ := pure_some e2
      injection p with p1 p2; injection p2 with p2 p3
      subst p1; subst p2; subst p3
      exact ⟨rfl, _, hb, trivial, rfl, .inr ⟨rfl, rfl, rfl⟩⟩
  · cases e2

theorem bytesOf_cons (v : V) (l : List V) : bytesOfCells (v :: l) = (match v with
      | .int .u8 (.ofNat n) => match Nat.blt n 256 with
        | true => match bytesOfCells l with
          | some r => some (n :: r)
          | none => none
        | false => none
      | _ => none) := rfl
theorem bytes_of {l : List V} {r : List Nat} (h : bytesOfCells l = some r) {l' : List Value} (hv : VRs ρ l l') : ∃ s : List UInt8, r = s.map (·.toNat) ∧ l' = s.map fun b => .int .u8 (b.toNat : Int) := by
  induction l generalizing r l' with
  | nil => cases hv; simp only [bytesOfCells] at h; injection h with h; subst h; exact ⟨[], rfl, rfl⟩
  | cons v l ih =>
    cases hv with
    | cons _ v' _ l'' h1 h2 =>
    rw [bytesOf_cons] at h
    split at h
    · rename_i n
      split at h
      · rename_i hn
        split at h
        · rename_i r' hr
          injection h with h; subst h
          obtain ⟨s, rfl, rfl⟩ := ih hr h2
          have hn := blt_nat.1 hn
          refine ⟨UInt8.ofNat n :: s, ?_, ?_⟩
          · simp [UInt8.toNat_ofNat', Nat.mod_eq_of_lt hn]
          · rw [h1.int_inv]; simp [UInt8.toNat_ofNat', Nat.mod_eq_of_lt hn]
        · cases h
      · cases h
    · cases h
end Go.Ev
/- The reads are the model's: maps, texts of bytes; all reads. -/
namespace Go.Ev
open Go
variable {P : Program} {w : World} {ρ : Rn}

theorem fitsT_s (d t : Nat) (x : V) : fitsT P (d + 1) t x = (match P.underlying t with
    | some .bool => match x with
      | .bool _ => true
      | _ => false
    | some (.int k) => match x with
      | .int j _ => sameK k j
      | _ => false
    | some .string => match x with
      | .str _ _ => true
      | _ => false
    | some (.struct fs) => match x with
      | .agg xs => fs.toList.all fun f => match partV P f.type xs f.offset with
        | some a => fitsT P d f.type a
        | none => false
      | _ => false
    | _ => false) := rfl

def checkFields (e : Bool) (D : Nat) (cs : Array Value) : List Field → Sem Unit
  | [] => pure ()
  | f :: fs => if f.name ≠ "_" then do Instr.checkKey e D f.type (← part f.type cs f.offset); checkFields e D cs fs else checkFields e D cs fs
theorem checkKey_struct {e : Bool} {D t : Nat} {cs : Array Value} {fs : Array Field} (hu : P.underlying t = some (.struct fs)) (w : World) :
    (Instr.checkKey e (D + 1) t (.agg cs)).run P w = (checkFields e D cs fs.toList).run P w := by
  simp only [Instr.checkKey, Sem.run_bind, r_und hu, Result.andThen_ok]
  rw [← Array.forIn_toList]
  generalize fs.toList = l
  induction l generalizing w with
  | nil => simp [checkFields]
  | cons f l ih =>
    simp only [List.forIn_cons, checkFields, Sem.run_bind, Sem.run_ite]
    split
    · generalize (part f.type cs f.offset).run P w = r1
      cases r1 with
      | ok a w1 =>
        simp only [Result.andThen_ok]
        generalize (Instr.checkKey e D f.type a).run P w1 = r2
        cases r2 with
        | ok b w2 => simp only [Result.andThen_ok, Sem.run_pure]; exact ih w2
        | halt x w2 => simp [Result.andThen]
      | halt x w1 => simp [Result.andThen]
    · simp only [Sem.run_pure, Result.andThen_ok]
      exact ih w

theorem checkKey_sound {e : Bool} : ∀ (d t : Nat) (x : V) (x' : Value) (D : Nat), d ≤ D → fitsT P d t x = true → VR ρ x x' → ∀ w, (Instr.checkKey e D t x').run P w = .ok () w := by
  intro d
  induction d with
  | zero => intro t x x' D _ h; cases h
  | succ d ih =>
    intro t x x' D hD h hx w
    obtain ⟨D, rfl⟩ : ∃ E, D = E + 1 := ⟨D - 1, by omega⟩
    rw [fitsT_s] at h
    split at h
    · rename_i hu
      split at h
      · rw [hx.bool_inv]; simp [Instr.checkKey, r_und hu]
      · cases h
    · rename_i k hu
      split at h
      · rw [hx.int_inv]; simp [Instr.checkKey, r_und hu]
      · cases h
    · rename_i hu
      split at h
      · obtain ⟨s, rfl, _, _⟩ := hx.str_inv; simp [Instr.checkKey, r_und hu]
      · cases h
    · rename_i fs hu
      split at h
      · rename_i xs
        obtain ⟨xs', rfl, vx, ox⟩ := hx.agg_inv
        rw [checkKey_struct hu]
        have : ∀ (l : List Field), (l.all fun f => match partV P f.type xs f.offset with | some a => fitsT P d f.type a | none => false) = true → ∀ w, (checkFields e D xs'.toArray l).run P w = .ok () w := by
          intro l
          induction l with
          | nil => intro _ w; rfl
          | cons f l ihl =>
            intro hl w
            simp only [List.all_cons, Bool.and_eq_true] at hl
            obtain ⟨h1, h2⟩ := hl
            simp only [checkFields]
            rw [Sem.run_ite]
            split
            · split at h1
              · rename_i a ha
                obtain ⟨a', ra, va⟩ := part_sound (w := w) vx ox ha
                simp only [Sem.run_bind, ra, Result.andThen_ok, ih _ _ _ D (by omega) h1 va w]
                exact ihl h2 w
              · cases h1
            · exact ihl h2 w
        exact this _ h w
      · cases h
    · cases h

theorem equal_eqT {t : Nat} {x y : V} {x' y' : Value} {r : Bool} (h : eqT P 8 t x y = some r) (hx : VR ρ x x') (hy : VR ρ y y') : (Op.equal t x' y').run P w = .ok r w :=
  eqT_sound 8 t x y x' y' r 10000 (by omega) h hx hy w

theorem updE_cons (kt : Nat) (k x : V) (e : V × V × Nat) (l : List (V × V × Nat)) : updE P kt k x (e :: l) = (match eqT P 8 kt k e.1 with
    | some true => match sameV k e.1 with
      | true => some ((k, x, e.2.2) :: l)
      | false => none
    | some false => match updE P kt k x l with
      | some r => some (e :: r)
      | none => none
    | none => none) := rfl
theorem sameS_eq {x y : V} (h : sameS x y = true) : x = y := by
  unfold sameS at h
  split at h
  · rw [beq_eq] at h; rw [eq_of_beq h]
  · split at h
    · rename_i hk; rw [ieq_eq] at h; rw [sameK_eq hk, eq_of_beq h]
    · cases h
  · split at h
    · rename_i hl; rw [(leq_iff _ _).1 hl, beq_nat.1 h]
    · cases h
  · cases h
theorem sameSs_eq : ∀ {a b : List V}, sameSs a b = true → a = b
  | [], [], _ => rfl
  | [], _ :: _, h => by cases h
  | x :: a, [], h => by cases h
  | x :: a, y :: b, h => by
    change (match sameS x y with | true => sameSs a b | false => false) = true at h
    split at h
    · rename_i hx; rw [sameS_eq hx, sameSs_eq h]
    · cases h
theorem sameV_eq {x y : V} (h : sameV x y = true) : x = y := by
  unfold sameV at h
  split at h
  · rw [sameSs_eq h]
  · exact sameS_eq h
/-- what becomes of the entries where one is put anew -/
def AtE (P : Program) (ρ : Rn) (kt : Nat) (k : V) (es : List (V × V × Nat)) (es' : List MapEntry) (j : Nat) (e : MapEntry) : Prop :=
  ∀ x es2, updE P kt k x es = some es2 → VR ρ k e.key ∧ ∀ f : MapEntry → MapEntry, VR ρ k (f e).key → VR ρ x (f e).val → (f e).born = e.born → EsR ρ es2 (es'.modify j f)
theorem AtE.here {kt : Nat} {k k0 v : V} {n : Nat} {l : List (V × V × Nat)} {l' : List MapEntry} {e : MapEntry} (he : eqT P 8 kt k k0 = some true) (hk : VR ρ k0 e.key) (hn : e.born = n) (hs : EsR ρ l l') :
    AtE P ρ kt k ((k0, v, n) :: l) (e :: l') 0 e := by
  intro x es2 h
  rw [updE_cons] at h
  simp only [he] at h
  split at h
  · rename_i hsv
    injection h with h; subst h
    have := sameV_eq hsv; subst this
    refine ⟨hk, fun f h1 h2 h3 => ?_⟩
    have : (e :: l').modify 0 f = f e :: l' := by simp
    rw [this]
    exact .cons _ _ _ _ _ _ h1 h2 (h3.trans hn) hs
  · cases h
theorem AtE.there {kt : Nat} {k k0 v : V} {n j : Nat} {l : List (V × V × Nat)} {l' : List MapEntry} {e e0 : MapEntry} (he : eqT P 8 kt k k0 = some false) (hk : VR ρ k0 e0.key) (hv : VR ρ v e0.val) (hn : e0.born = n)
    (ha : AtE P ρ kt k l l' j e) : AtE P ρ kt k ((k0, v, n) :: l) (e0 :: l') (j + 1) e := by
  intro x es2 h
  rw [updE_cons] at h
  simp only [he] at h
  split at h
  · rename_i r hr
    injection h with h; subst h
    obtain ⟨h1, h2⟩ := ha x r hr
    refine ⟨h1, fun f g1 g2 g3 => ?_⟩
    have : (e0 :: l').modify (j + 1) f = e0 :: l'.modify j f := by simp
    rw [this]
    exact .cons _ _ _ _ _ _ hk hv hn (h2 f g1 g2 g3)
  · cases h

/-- where a key stands among a map's entries -/
theorem asking_sound {kt : Nat} {k : V} {k' : Value} (hk : VR ρ k k') : ∀ (es : List (V × V × Nat)) (es' : List MapEntry) (i : Nat) (r : Option (V × Nat)), lookE P kt k es = some r → EsR ρ es es' →
    ∃ q, (Instr.findAsking kt k' es' i).run P w = .ok q w ∧ ((r = none ∧ q = none) ∨ ∃ v n v' j, r = some (v, n) ∧ q = some (i + j, v') ∧ VR ρ v v' ∧ (∃ e, es'[j]? = some e ∧ e.val = v' ∧ e.born = n ∧ AtE P ρ kt k es es' j e)) := by
  intro es
  induction es with
  | nil =>
    intro es' i r h hes
    cases hes
    simp only [lookE] at h; injection h with h; subst h
    exact ⟨none, rfl, .inl ⟨rfl, rfl⟩⟩
  | cons e es ih =>
    intro es' i r h hes
    cases hes with
    | cons k0 v n e' l l' hk0 hv hn hs =>
    change (match eqT P 8 kt k k0 with
      | some true => some (some (v, n))
      | some false => lookE P kt k es
      | none => none) = some r at h
    split at h
    · rename_i he
      injection h with h; subst h
      refine ⟨some (i, e'.val), ?_, .inr ⟨v, n, e'.val, 0, rfl, rfl, hv, e', rfl, rfl, hn, .here he hk0 hn hs⟩⟩
      simp [Instr.findAsking, equal_eqT he hk hk0]
    · rename_i he
      obtain ⟨q, hq, hr⟩ := ih l' (i + 1) r h hs
      refine ⟨q, ?_, ?_⟩
      · simp only [Instr.findAsking, Sem.run_bind, equal_eqT he hk hk0, Result.andThen_ok, Bool.false_eq_true, if_false]; exact hq
      · rcases hr with ⟨a, b⟩ | ⟨v2, n2, v', j, a, b, c, e2, d1, d2, d3, d4⟩
        · exact .inl ⟨a, b⟩
        · exact .inr ⟨v2, n2, v', j + 1, a, by rw [b]; congr 2; omega, c, e2, by simpa using d1, d2, d3, .there he hk0 hv hn d4⟩
    · cases h

theorem sameNow_eqT {kt : Nat} {d : TypeDesc} {x y : V} {x' y' : Value} {r b : Bool} (hu : P.underlying kt = some d) (h : eqT P 8 kt x y = some r) (hx : VR ρ x x') (hy : VR ρ y y') (hb : Instr.sameNow d x' y' = some b) : b = r := by
  rw [eqT_s, hu] at h
  cases d <;> simp only at h <;> first | (cases h; done) | skip
  · split at h
    · obtain ⟨c, rfl, rfl⟩ := eqS_bool hy h
      rw [hx.bool_inv] at hb
      simp only [Instr.sameNow] at hb; injection hb with hb; exact hb.symm
    · cases h
  · split at h
    · obtain ⟨c, rfl, rfl⟩ := eqS_int hy h
      rw [hx.int_inv] at hb
      simp only [Instr.sameNow, if_true] at hb; injection hb with hb; exact hb.symm
    · cases h
  · split at h
    · obtain ⟨s, u, rfl, rfl, rfl⟩ := eqS_str hx hy h
      simp only [Instr.sameNow] at hb; injection hb with hb; rw [← hb, beq_toListBytes]
    · cases h
  · simp only [Instr.sameNow] at hb; cases hb

theorem now_sound {kt : Nat} {d : TypeDesc} {k : V} {k' : Value} (hu : P.underlying kt = some d) (hk : VR ρ k k') : ∀ (es : List (V × V × Nat)) (es' : List MapEntry) (i : Nat) (r : Option (V × Nat)) (q : Option (Nat × Value)), lookE P kt k es = some r → EsR ρ es es' →
    Instr.findNow d k' es' i = some q → ((r = none ∧ q = none) ∨ ∃ v n v' j, r = some (v, n) ∧ q = some (i + j, v') ∧ VR ρ v v' ∧ (∃ e, es'[j]? = some e ∧ e.val = v' ∧ e.born = n ∧ AtE P ρ kt k es es' j e)) := by
  intro es
  induction es with
  | nil =>
    intro es' i r q h hes hq
    cases hes
    simp only [lookE] at h; injection h with h; subst h
    simp only [Instr.findNow] at hq; injection hq with hq
    exact .inl ⟨rfl, hq.symm⟩
  | cons e es ih =>
    intro es' i r q h hes hq
    cases hes with
    | cons k0 v n e' l l' hk0 hv hn hs =>
    change (match eqT P 8 kt k k0 with
      | some true => some (some (v, n))
      | some false => lookE P kt k es
      | none => none) = some r at h
    simp only [Instr.findNow] at hq
    split at h
    · rename_i he
      injection h with h; subst h
      split at hq
      · injection hq with hq; subst hq; exact .inr ⟨v, n, e'.val, 0, rfl, rfl, hv, e', rfl, rfl, hn, .here he hk0 hn hs⟩
      · rename_i hb; have := sameNow_eqT hu he hk hk0 hb; cases this
      · cases hq
    · rename_i he
      split at hq
      · rename_i hb; have := sameNow_eqT hu he hk hk0 hb; cases this
      · rcases ih l' (i + 1) r q h hs hq with ⟨a, b⟩ | ⟨v2, n2, v', j, a, b, c, e2, d1, d2, d3, d4⟩
        · exact .inl ⟨a, b⟩
        · exact .inr ⟨v2, n2, v', j + 1, a, by rw [b]; congr 2; omega, c, e2, by simpa using d1, d2, d3, .there he hk0 hv hn d4⟩
      · cases hq
    · cases h

theorem findKey_sound {kt : Nat} {k : V} {k' : Value} {d : TypeDesc} (hu : P.underlying kt = some d) (hk : VR ρ k k') {es : List (V × V × Nat)} {es' : List MapEntry} {r : Option (V × Nat)} (h : lookE P kt k es = some r) (hes : EsR ρ es es') :
    ∃ q, (Instr.findKey kt k' es').run P w = .ok q w ∧ ((r = none ∧ q = none) ∨ ∃ v n v' j, r = some (v, n) ∧ q = some (j, v') ∧ VR ρ v v' ∧ (∃ e, es'[j]? = some e ∧ e.val = v' ∧ e.born = n ∧ AtE P ρ kt k es es' j e)) := by
  simp only [Instr.findKey, Sem.run_bind, r_und hu, Result.andThen_ok]
  cases hn : Instr.findNow d k' es' 0 with
  | some q =>
    refine ⟨q, by simp, ?_⟩
    have := now_sound hu hk es es' 0 r q h hes hn
    simpa using this
  | none =>
    obtain ⟨q, hq, hr⟩ := asking_sound (w := w) hk es es' 0 r h hes
    exact ⟨q, by simpa using hq, by simpa using hr⟩

theorem lookS_iff (n : Nat) : ∀ (es : List (Nat × V)), es.Pairwise (fun a b => a.1 < b.1) → ∀ v, lookS n es = some v ↔ (n, v) ∈ es := by
  intro es
  induction es with
  | nil => intro _ v; simp [lookS]
  | cons e es ih =>
    intro hp v
    obtain ⟨h1, h2⟩ := List.pairwise_cons.1 hp
    change (match Nat.beq e.1 n with | true => some e.2 | false => lookS n es) = some v ↔ _
    cases hb : Nat.beq e.1 n with
    | true =>
      rw [beq_nat] at hb
      subst hb
      simp only [Option.some.injEq, List.mem_cons]
      constructor
      · rintro rfl; exact .inl rfl
      · rintro (h | h)
        · rw [← h]
        · have := h1 _ h; simp at this
    | false =>
      rw [beq_nat_false] at hb
      simp only [List.mem_cons]
      rw [ih h2 v]
      constructor
      · exact .inr
      · rintro (h | h)
        · exact absurd (by rw [← h]) hb
        · exact h

/-- a map by numbers: where a key stands -/
theorem findS_sound {kt : Nat} {kd : IntKind} {n : Nat} (hu : P.underlying kt = some (.int kd)) {es : List (Nat × V)} {es' : List MapEntry} (h : SmR ρ kd es es') :
    ∃ q, (Instr.findKey kt (.int kd (Int.ofNat n)) es').run P w = .ok q w ∧ ((lookS n es = none ∧ q = none) ∨ ∃ v v' j e, lookS n es = some v ∧ q = some (j, v') ∧ VR ρ v v' ∧ es'[j]? = some e ∧ e.key = .int kd (Int.ofNat n) ∧ e.val = v') := by
  simp only [Instr.findKey, Sem.run_bind, r_und hu, Result.andThen_ok]
  have key : ∀ (l : List MapEntry) (i : Nat), (∀ e ∈ l, ∃ m, e.key = .int kd (Int.ofNat m)) →
      (∃ q, Instr.findNow (.int kd) (.int kd (Int.ofNat n)) l i = some q ∧ ((q = none ∧ ∀ e ∈ l, e.key ≠ .int kd (Int.ofNat n)) ∨ ∃ j e, q = some (i + j, e.val) ∧ l[j]? = some e ∧ e.key = .int kd (Int.ofNat n))) := by
    intro l
    induction l with
    | nil => intro i _; exact ⟨none, rfl, .inl ⟨rfl, by simp⟩⟩
    | cons e l ih =>
      intro i hl
      obtain ⟨m, hm⟩ := hl e (by simp)
      by_cases hmn : m = n
      · subst hmn
        refine ⟨some (i, e.val), ?_, .inr ⟨0, e, rfl, rfl, hm⟩⟩
        simp [Instr.findNow, hm, Instr.sameNow]
      · obtain ⟨q, hq, hr⟩ := ih (i + 1) (fun x hx => hl x (by simp [hx]))
        refine ⟨q, ?_, ?_⟩
        · have hf : (Int.ofNat n == Int.ofNat m) = false := by simp; omega
          simp only [Instr.findNow, hm, Instr.sameNow, if_true, hf]
          exact hq
        · rcases hr with ⟨a, b⟩ | ⟨j, e2, a, b, c⟩
          · refine .inl ⟨a, fun x hx => ?_⟩
            rcases List.mem_cons.1 hx with rfl | hx
            · rw [hm]; intro e; injection e with _ e; exact hmn (Int.ofNat.inj e)
            · exact b x hx
          · exact .inr ⟨j + 1, e2, by rw [a]; congr 2; omega, by simpa using b, c⟩
  obtain ⟨q, hq, hr⟩ := key es' 0 (fun e he => let ⟨m, v, _, hk, _⟩ := h.here e he; ⟨m, hk⟩)
  refine ⟨q, by rw [hq]; rfl, ?_⟩
  rcases hr with ⟨rfl, hno⟩ | ⟨j, e, rfl, hj, hk⟩
  · refine .inl ⟨?_, rfl⟩
    cases hl : lookS n es with
    | none => rfl
    | some v =>
      obtain ⟨e, he, hk, _⟩ := h.there n v ((lookS_iff n es h.sorted v).1 hl)
      exact absurd hk (hno e he)
  · refine .inr ?_
    have he : e ∈ es' := List.mem_of_getElem? hj
    obtain ⟨m, v, hm, hkm, hv⟩ := h.here e he
    rw [hk] at hkm; injection hkm with _ hkm
    have hmn : m = n := (Int.ofNat.inj hkm).symm
    subst hmn
    exact ⟨v, e.val, j, e, (lookS_iff m es h.sorted v).2 hm, by simp, hv, hj, hk, rfl⟩
end Go.Ev
/- The reads are the model's: all of them. -/
namespace Go.Ev
open Go
variable {P : Program} {w : World} {ρ : Rn}

theorem push_all : ∀ (s : List UInt8) (a : ByteArray), ((s.map fun b => (b.toNat : Int)).foldl (fun r n => r.push (UInt8.ofNat n.toNat)) a).data.toList = a.data.toList ++ s := by
  intro s
  induction s with
  | nil => intro a; simp
  | cons x s ih =>
    intro a
    simp only [List.map_cons, List.foldl_cons]
    rw [ih]
    simp [ByteArray.push]

/-- an object that is no row of cells -/
theorem r_obj {r : Nat} {o : Obj} (h : w.heap[r]? = some o) (hc : ∀ c e f, o ≠ .cells c e f) : (getObj r).run P w = .ok o w := by
  simp only [getObj, Sem.run]
  rw [h]
  cases o <;> first | exact absurd rfl (hc _ _ _) | rfl

theorem zeroAt_some {t kt : Nat} {k z : V} (h : zeroAt P t k = some (kt, z)) : ∃ e, P.underlying t = some (.map kt e) ∧ keyOk P kt k = true ∧ zeroOf P e = some z := by
  unfold zeroAt at h
  split at h
  · rename_i kt' e hu
    split at h
    · rename_i hk
      split at h
      · rename_i z' hz
        injection h with h; injection h with h1 h2; subst h1; subst h2
        exact ⟨e, hu, hk, hz⟩
      · cases h
    · cases h
  · cases h

theorem found_pair {v : V} {v' : Value} {b : Bool} (h : VR ρ v v') : VR ρ (.tup [v, .bool b]) (.tuple #[v', .bool b]) :=
  .tup _ [v', .bool b] (.cons _ _ _ _ h (.cons _ _ _ _ (.bool b) .nil))

theorem fitsT_desc {d t : Nat} {k : V} (h : fitsT P (d + 1) t k = true) : ∃ ds, P.underlying t = some ds := by
  rw [fitsT_s] at h
  cases hu : P.underlying t with
  | none => rw [hu] at h; cases h
  | some ds => exact ⟨ds, rfl⟩
theorem fitsT_int {d t : Nat} {j : IntKind} {n : Int} (h : fitsT P (d + 1) t (.int j n) = true) : P.underlying t = some (.int j) := by
  rw [fitsT_s] at h
  split at h <;> first | (simp only at h; cases h; done) | (cases h; done) | skip
  rename_i k hu
  simp only at h
  have := sameK_eq h; subst this
  exact hu

/-- v, ok := m[k] behind what is found -/
theorem lookup_run {t kt e r : Nat} {k z : V} {k' : Value} {ok : Bool} {es : Array MapEntry} {n : Nat} {q : Option (Nat × Value)} {f : Option V} (hu : P.underlying t = some (.map kt e)) (hk : keyOk P kt k = true) (hkv : VR ρ k k') (hz : zeroOf P e = some z)
    (hb : w.heap[r]? = some (.map es n)) (hq : (Instr.findKey kt k' es.toList).run P w = .ok q w) (hf : (f = none ∧ q = none) ∨ ∃ v v' j, f = some v ∧ q = some (j, v') ∧ VR ρ v v') :
    ∃ v', (Instr.lookup t (.map (some r)) k' ok).run P w = .ok v' w ∧ VR ρ (found f z ok) v' := by
  have hck : ∀ e, (Instr.checkKey e 10000 kt k').run P w = .ok () w := fun e => checkKey_sound 8 kt k k' 10000 (by omega) hk hkv w
  obtain ⟨z', rz, vz⟩ := zeroOf_run (w := w) (ρ := ρ) hz
  have hobj := r_obj (P := P) hb (by intro _ _ _ h; cases h)
  rcases hf with ⟨rfl, rfl⟩ | ⟨v, v', j, rfl, rfl, hv⟩
  · cases ok
    · refine ⟨z', ?_, vz⟩
      simp only [Instr.lookup, Sem.run_bind, r_und hu, Result.andThen_ok, hobj, Sem.run_pure, hck, hq, rz]
      rfl
    · refine ⟨_, ?_, found_pair vz⟩
      simp only [Instr.lookup, Sem.run_bind, r_und hu, Result.andThen_ok, hobj, Sem.run_pure, hck, hq, rz]
      rfl
  · cases ok
    · refine ⟨v', ?_, hv⟩
      simp only [Instr.lookup, Sem.run_bind, r_und hu, Result.andThen_ok, hobj, Sem.run_pure, hck, hq]
      rfl
    · refine ⟨_, ?_, found_pair hv⟩
      simp only [Instr.lookup, Sem.run_bind, r_und hu, Result.andThen_ok, hobj, Sem.run_pure, hck, hq]
      rfl
theorem lookup_nil {t kt e : Nat} {k z : V} {k' : Value} {ok : Bool} (hu : P.underlying t = some (.map kt e)) (hk : keyOk P kt k = true) (hkv : VR ρ k k') (hz : zeroOf P e = some z) :
    ∃ v', (Instr.lookup t (.map none) k' ok).run P w = .ok v' w ∧ VR ρ (found none z ok) v' := by
  have hck : ∀ e, (Instr.checkKey e 10000 kt k').run P w = .ok () w := fun e => checkKey_sound 8 kt k k' 10000 (by omega) hk hkv w
  obtain ⟨z', rz, vz⟩ := zeroOf_run (w := w) (ρ := ρ) hz
  obtain ⟨ds, hkt⟩ := fitsT_desc (d := 7) hk
  have hq : (Instr.findKey kt k' []).run P w = .ok none w := by simp [Instr.findKey, r_und hkt, Instr.findNow]
  cases ok
  · refine ⟨z', ?_, vz⟩
    simp only [Instr.lookup, Sem.run_bind, r_und hu, Result.andThen_ok, Sem.run_pure, hck, hq, rz]
    rfl
  · refine ⟨_, ?_, found_pair vz⟩
    simp only [Instr.lookup, Sem.run_bind, r_und hu, Result.andThen_ok, Sem.run_pure, hck, hq, rz]
    rfl

theorem lookB_sound {cl : T Cl} {b : B} {loc : Loc} {t : Nat} {k : V} {k' : Value} {ok : Bool} {v : V} (h : BR P ρ cl b loc w) (hl : lookB P t k ok b = some v) (hk : VR ρ k k') :
    ∃ v', (Instr.lookup t (.map (some loc.blk)) k' ok).run P w = .ok v' w ∧ VR ρ v v' := by
  unfold lookB at hl
  split at hl
  · rename_i kt z hz
    obtain ⟨e, hu, hko, hze⟩ := zeroAt_some hz
    split at hl
    · rename_i o ho
      injection hl with hl; subst hl
      unfold lookM at ho
      split at ho
      · rename_i es n
        obtain ⟨es', hb, hes⟩ := h
        obtain ⟨ds, hkt⟩ := fitsT_desc (d := 7) hko
        split at ho
        · rename_i v0 n0 hle
          injection ho with ho; subst ho
          obtain ⟨q, hq, hr⟩ := findKey_sound (w := w) hkt hk hle hes
          refine lookup_run hu hko hk hze hb hq ?_
          rcases hr with ⟨a, _⟩ | ⟨v1, n1, v', j, a, b, c, _⟩
          · cases a
          · injection a with a; injection a with a1 a2; subst a1
            exact .inr ⟨_, _, _, rfl, b, c⟩
        · rename_i hle
          injection ho with ho; subst ho
          obtain ⟨q, hq, hr⟩ := findKey_sound (w := w) hkt hk hle hes
          refine lookup_run hu hko hk hze hb hq ?_
          rcases hr with ⟨a, b⟩ | ⟨v1, n1, v', j, a, b, c, _⟩
          · exact .inl ⟨rfl, b⟩
          · cases a
        · cases ho
      · rename_i kd es
        obtain ⟨es', hb, hes, _⟩ := h
        split at ho
        · rename_i j m
          split at ho
          · rename_i hsk
            have := sameK_eq hsk; subst this
            injection ho with ho; subst ho
            have hkt := fitsT_int (d := 7) hko
            rw [hk.int_inv] at *
            obtain ⟨q, hq, hr⟩ := findS_sound (P := P) (w := w) (n := m) hkt hes
            refine lookup_run hu hko hk hze hb hq ?_
            rcases hr with ⟨a, b⟩ | ⟨v1, v', j, e1, a, b, c, _⟩
            · exact .inl ⟨a, b⟩
            · exact .inr ⟨_, _, _, a, b, c⟩
          · cases ho
        · cases ho
      · cases ho
    · cases hl
  · cases hl

theorem strB_sound {cl : T Cl} {b : B} {loc : Loc} {s d o len c : Nat} {v : V} (h : BR P ρ cl b loc w) (hl : strB P s d o len b = some v) :
    ∃ v', (convert s d (.slice (some ⟨loc.blk, loc.sh + o, none⟩) len c)).run P w = .ok v' w ∧ VR ρ v v' := by
  unfold strB at hl
  split at hl
  · rename_i e hs hd
    split at hl
    · rename_i he
      split at hl
      · rename_i cs0 hc
        split at hl
        · rename_i l hsub
          split at hl
          · rename_i r hr
            injection hl with hl; subst hl
            obtain ⟨cs, e', fz, hb, hca, _⟩ := h.cells hc
            obtain ⟨hle, rfl⟩ := sub_some hsub
            obtain ⟨hv, hlen, _⟩ := hca.list hle
            obtain ⟨u, rfl, hu⟩ := bytes_of hr hv
            have hload := loadList (P := P) hb hca hle
            rw [hu] at hload
            have hm : (u.map fun b => Value.int .u8 (b.toNat : Int)) = (u.map fun b => (b.toNat : Int)).map (Value.int .u8) := by simp
            rw [hm] at hload
            rw [run_convert_bytes_string w s d e _ _ _ hs he hd, run_bytesToString w _ _ _ _ hload]
            refine ⟨_, rfl, .str _ _ _ ?_ ?_⟩
            · rw [ofBytes, push_all]; simp
            · rw [List.length_map]
              have := congrArg List.length hu
              rw [hlen, List.length_map] at this; exact this.symm
          · cases hl
        · cases hl
      · cases hl
    · cases hl
  · cases hl
theorem strNil_sound {s d : Nat} {v : V} (hl : strNil P s d = some v) : ∃ v', (convert s d (.slice none 0 0)).run P w = .ok v' w ∧ VR ρ v v' := by
  unfold strNil at hl
  split at hl
  · rename_i e hs hd
    split at hl
    · rename_i he
      injection hl with hl; subst hl
      refine ⟨.string .empty, ?_, .str _ _ _ rfl rfl⟩
      rw [run_convert_bytes_string w s d e _ _ _ hs he hd]
      rfl
    · cases hl
  · cases hl

theorem EsR.length {l : List (V × V × Nat)} {l' : List MapEntry} (h : EsR ρ l l') : l.length = l'.length := by
  induction h with
  | nil => rfl
  | cons _ _ _ _ _ _ _ _ _ _ ih => simp [ih]
theorem SmR.length {k : IntKind} {l : List (Nat × V)} {l' : List MapEntry} (h : SmR ρ k l l') : l.length = l'.length := by
  let f : Value → Nat := fun v => match v with
    | .int _ n => n.toNat
    | _ => 0
  have hf : ∀ m, f (.int k (Int.ofNat m)) = m := fun m => by simp [f]
  have h1 : (l.map (·.1)).Nodup := by
    rw [List.Nodup, List.pairwise_map]
    exact h.sorted.imp fun hab => Nat.ne_of_lt hab
  have h2 : (l'.map fun e => f e.key).Nodup := by
    have ha := h.apart
    rw [List.pairwise_map] at ha
    rw [List.Nodup, List.pairwise_map]
    have := List.Pairwise.and_mem.1 ha
    refine this.imp ?_
    rintro a b ⟨ha, hb, hab⟩ e
    obtain ⟨m, _, _, hm, _⟩ := h.here a ha
    obtain ⟨n, _, _, hn, _⟩ := h.here b hb
    rw [hm, hn, hf, hf] at e
    subst e
    exact hab (hm.trans hn.symm)
  have hp : (l.map (·.1)).Perm (l'.map fun e => f e.key) := by
    rw [List.perm_ext_iff_of_nodup h1 h2]
    intro m
    constructor
    · intro hm
      obtain ⟨⟨n, v⟩, hx, rfl⟩ := List.mem_map.1 hm
      obtain ⟨e, he, hk, _⟩ := h.there n v hx
      exact List.mem_map.2 ⟨e, he, by rw [hk, hf]⟩
    · intro hm
      obtain ⟨e, he, rfl⟩ := List.mem_map.1 hm
      obtain ⟨n, v, hx, hk, _⟩ := h.here e he
      exact List.mem_map.2 ⟨(n, v), hx, by rw [hk, hf]⟩
  have := hp.length_eq
  simpa using this
theorem lenB_sound {cl : T Cl} {b : B} {loc : Loc} {t ty : Nat} {ats : Array TypeId} {v : V} (h : BR P ρ cl b loc w) (hl : lenB b = some v) (ht : ats[0]? = some t) {kt e : Nat} (hu : P.underlying t = some (.map kt e)) :
    ∃ v', (Builtin.len_ ats ty #[.map (some loc.blk)]).run P w = .ok v' w ∧ VR ρ v v' := by
  have hs : ∀ es n, w.heap[loc.blk]? = some (.map es n) → (Builtin.len_ ats ty #[.map (some loc.blk)]).run P w = .ok (goInt es.size) w := by
    intro es n hb
    have hobj := r_obj (P := P) hb (by intro _ _ _ h; cases h)
    have e0 : (#[Value.map (some loc.blk)] : Array Value)[0]? = some (.map (some loc.blk)) := rfl
    simp only [Builtin.len_, ht, e0]
    simp only [Sem.run_bind, r_und hu, Result.andThen_ok, hobj]
    rfl
  unfold lenB at hl
  split at hl
  · obtain ⟨es', hb, hes⟩ := h
    injection hl with hl; subst hl
    refine ⟨_, hs _ _ hb, ?_⟩
    rw [llen_eq, hes.length, Array.length_toList]; exact .int _ _
  · obtain ⟨es', hb, hes, _⟩ := h
    injection hl with hl; subst hl
    refine ⟨_, hs _ _ hb, ?_⟩
    rw [llen_eq, hes.length, Array.length_toList]; exact .int _ _
  · cases hl
end Go.Ev
/- A read; an operation that makes a block. -/
namespace Go.Ev
open Go
variable {P : Program} {w : World} {ρ : Rn}

/-- what an operation that gives a value, or none, comes to -/
def OpS (P : Program) (ρ : Rn) (h : H) (w : World) (s : Sem Next) (v : V) (h' : H) : Prop :=
  ∃ ρ' w' n v', s.run P w = .ok n w' ∧ (n = .value v' ∨ (n = .skip ∧ v' = undef)) ∧ Ext ρ h w ρ' h' w' ∧ HR P ρ' h' w' ∧ VR ρ' v v'

theorem kd_len {c : Call} (h : kd P (.call c) = .l) : c.callee = .builtin .len ∧ ∃ t, c.argTypes.toList[0]? = some t ∧ isMapT P t = true := by
  simp only [kd] at h
  split at h
  · rename_i b hb
    split at h <;> first | (cases h; done) | skip
    refine ⟨hb, ?_⟩
    split at h
    · rename_i t ht
      rw [nth_eq] at ht
      split at h
      · rename_i hm; exact ⟨t, ht, hm⟩
      · cases h
    · cases h
  · cases h
theorem isMapT_some {t : Nat} (h : isMapT P t = true) : ∃ k e, P.underlying t = some (.map k e) := by
  unfold isMapT at h
  split at h
  · rename_i k e hu; exact ⟨k, e, hu⟩
  · cases h

theorem readB_sound {o : Oper} {tm : T V} {ev : Operand → Value} {v : V} {cl : T Cl} {b : B} {loc : Loc} {id : Nat} (hk : kd P o.op = .l) (hat : readAt P tm o.op = some id) (hv : readB P tm o.op b = some v)
    (hx : ∀ x, VR ρ (opd P tm x) (ev x)) (hb : BR P ρ cl b loc w) (hρ : ρ id = some loc) : ∃ v', (execOp ev o).run P w = .ok (.value v') w ∧ VR ρ v v' := by
  obtain ⟨dst, op, ty, pos, after, guard⟩ := o
  have val : ∀ (s : Sem Value), (∃ v', s.run P w = .ok v' w ∧ VR ρ v v') → ∃ v', (do pure (.value (← s)) : Sem Next).run P w = .ok (.value v') w ∧ VR ρ v v' := fun s ⟨v', e, r⟩ => ⟨v', by simp [e], r⟩
  cases op <;> simp only [readAt] at hat <;> first | (cases hat; done) | skip
  case load t a =>
    have ha := hx a
    simp only [readB] at hv
    split at hat
    · rename_i b0 q ho
      injection hat with hat; subst hat
      rw [ho] at ha hv
      simp only at hv
      refine val _ ?_
      generalize ev a = ea at ha
      cases ha with
      | ptr _ _ l2 h2 =>
        rw [hρ] at h2; injection h2 with h2; subst h2
        obtain ⟨v', e, r⟩ := loadB_sound hb hv
        refine ⟨v', ?_, r⟩
        simp only [Instr.loadAt, Instr.sureAddr, Sem.run_bind, Sem.run_pure, Result.andThen_ok]
        exact e
    · cases hat
  case lookup t x k ok =>
    have hxx := hx x
    simp only [readB] at hv
    split at hat
    · rename_i b0 ho
      injection hat with hat; subst hat
      rw [ho] at hxx
      refine val _ ?_
      generalize ev x = ex at hxx
      cases hxx with
      | map _ l2 h2 =>
        rw [hρ] at h2; injection h2 with h2; subst h2
        exact lookB_sound hb hv (hx k)
    · cases hat
  case convert s d x =>
    have hxx := hx x
    simp only [readB] at hv
    split at hat
    · rename_i b0 q len cap ho
      injection hat with hat; subst hat
      rw [ho] at hxx hv
      simp only at hv
      refine val _ ?_
      generalize ev x = ex at hxx
      cases hxx with
      | slx _ _ _ c l2 h2 _ => rw [hρ] at h2; injection h2 with h2; subst h2; exact strB_sound hb hv
      | sle _ _ _ c l2 h2 _ => rw [hρ] at h2; injection h2 with h2; subst h2; exact strB_sound hb hv
    · cases hat
  case call c =>
    obtain ⟨hc, t, ht, hm⟩ := kd_len hk
    obtain ⟨kt, e, hu⟩ := isMapT_some hm
    obtain ⟨callee, args, ats⟩ := c
    simp only at hc ht; subst hc
    simp only [readB] at hv
    simp only [lenArg, nth_eq] at hat
    split at hat
    · rename_i x hx0
      split at hat
      · rename_i b0 ho
        injection hat with hat; subst hat
        have hxx := hx x
        rw [ho] at hxx
        -- there may be more arguments: len takes the first
        have hev : (args.map ev)[0]? = some (ev x) := by
          rw [Array.getElem?_map, ← Array.getElem?_toList, hx0]; rfl
        generalize ev x = ex at hxx hev
        cases hxx with
        | map _ l2 h2 =>
          rw [hρ] at h2; injection h2 with h2; subst h2
          have ht' : ats[0]? = some t := by rw [← Array.getElem?_toList]; exact ht
          obtain ⟨v', e1, r⟩ := lenB_sound (ty := ty) hb hv ht' hu
          refine ⟨v', ?_, r⟩
          have e2 : Builtin.len_ ats ty (args.map ev) = Builtin.len_ ats ty #[.map (some loc.blk)] := by
            have e0 : (#[Value.map (some loc.blk)] : Array Value)[0]? = some (.map (some loc.blk)) := rfl
            simp only [Builtin.len_, ht', hev, e0]
          simp only [execOp, resolve, Sem.run_bind, Sem.run_pure, Result.andThen_ok, invoke, builtin]
          rw [e2, e1]
          rfl
      · cases hat
    · cases hat

theorem readNil_sound {o : Oper} {tm : T V} {ev : Operand → Value} {v : V} (hk : kd P o.op = .l) (hv : readNil P tm o.op = some v) (hx : ∀ x, VR ρ (opd P tm x) (ev x)) :
    ∃ v', (execOp ev o).run P w = .ok (.value v') w ∧ VR ρ v v' := by
  obtain ⟨dst, op, ty, pos, after, guard⟩ := o
  have val : ∀ (s : Sem Value), (∃ v', s.run P w = .ok v' w ∧ VR ρ v v') → ∃ v', (do pure (.value (← s)) : Sem Next).run P w = .ok (.value v') w ∧ VR ρ v v' := fun s ⟨v', e, r⟩ => ⟨v', by simp [e], r⟩
  cases op <;> simp only [readNil] at hv <;> first | (cases hv; done) | skip
  case lookup t x k ok =>
    have hxx := hx x
    split at hv
    · rename_i ho
      rw [ho] at hxx
      split at hv
      · rename_i kt z hz
        injection hv with hv; subst hv
        obtain ⟨e, hu, hko, hze⟩ := zeroAt_some hz
        refine val _ ?_
        generalize ev x = ex at hxx
        cases hxx
        exact lookup_nil hu hko (hx k) hze
      · cases hv
    · cases hv
  case convert s d x =>
    have hxx := hx x
    split at hv
    · rename_i ho
      rw [ho] at hxx
      refine val _ ?_
      generalize ev x = ex at hxx
      cases hxx
      exact strNil_sound hv
    · cases hv
  case call c =>
    obtain ⟨hc, t, ht, hm⟩ := kd_len hk
    obtain ⟨kt, e, hu⟩ := isMapT_some hm
    obtain ⟨callee, args, ats⟩ := c
    simp only at hc ht; subst hc
    simp only [lenArg, nth_eq] at hv
    split at hv
    · rename_i x hx0
      split at hv
      · rename_i ho
        injection hv with hv; subst hv
        have hxx := hx x
        rw [ho] at hxx
        have hev : (args.map ev)[0]? = some (ev x) := by
          rw [Array.getElem?_map, ← Array.getElem?_toList, hx0]; rfl
        generalize ev x = ex at hxx hev
        cases hxx
        have ht' : ats[0]? = some t := by rw [← Array.getElem?_toList]; exact ht
        refine ⟨goInt 0, ?_, .int _ _⟩
        have e1 : (Builtin.len_ ats ty (args.map ev)).run P w = .ok (goInt 0) w := by
          simp only [Builtin.len_, ht', hev, Sem.run_bind, r_und hu, Result.andThen_ok]
          rfl
        simp only [execOp, resolve, Sem.run_bind, Sem.run_pure, Result.andThen_ok, invoke, builtin]
        rw [e1]
        rfl
      · cases hv
    · cases hv

/-- A READ -/
theorem opL_sound {o : Oper} {tm : T V} {ev : Operand → Value} {v : V} {h h' : H} (hr : HR P ρ h w) (hk : kd P o.op = .l) (hv : opL P tm o.op h = some (v, h')) (hx : ∀ x, VR ρ (opd P tm x) (ev x)) :
    h' = h ∧ ∃ v', (execOp ev o).run P w = .ok (.value v') w ∧ VR ρ v v' := by
  simp only [opL] at hv
  generalize hat : readAt P tm o.op = x at hv
  cases x with
  | some id =>
    simp only at hv
    obtain ⟨b, h1, e1, e2⟩ := bind_some hv
    obtain ⟨rfl, hb, hl⟩ := getL_some e1
    obtain ⟨e3, rfl⟩ := lift_some e2
    obtain ⟨loc, hρ⟩ := (hr.dom id).2 ⟨b, hb⟩
    exact ⟨rfl, readB_sound hk hat e3 hx (hr.blk id b loc hb hl hρ) hρ⟩
  | none =>
    obtain ⟨e3, rfl⟩ := lift_some hv
    exact ⟨rfl, readNil_sound hk e3 hx⟩
end Go.Ev
/- An operation that makes a block. -/
namespace Go.Ev
open Go
variable {P : Program} {w : World} {ρ : Rn}

theorem newAt_some {al : Option Nat} {b : B} {h h' : H} {id : Nat} (e : newAt al b h = some (id, h')) (hlt : ∀ i c, h.bs.get i = some c → i < h.next) :
    h.bs.get id = none ∧ id < h'.next ∧ h.next ≤ h'.next ∧ h'.bs = h.bs.set id b ∧ h'.gs = h.gs ∧ h'.cl = h.cl := by
  obtain ⟨n, gs, wr, bs, cl⟩ := h
  cases al with
  | none =>
    simp only [newAt, newB] at e
    injection e with e; injection e with e1 e2; subst e1; subst e2
    refine ⟨?_, Nat.lt_succ_self _, Nat.le_succ _, rfl, rfl, rfl⟩
    cases hg : bs.get n with
    | none => exact hg
    | some c => exact absurd (hlt n c hg) (Nat.lt_irrefl _)
  | some i =>
    simp only [newAt] at e
    obtain ⟨u, h1, e1, e2⟩ := bind_some e
    obtain ⟨rfl, rfl⟩ := pure_some e2
    simp only [fillB] at e1
    split at e1
    · rename_i hb
      split at e1
      · cases e1
      · rename_i hg
        injection e1 with e1; injection e1 with _ e3; subst e3
        exact ⟨hg, blt_nat.1 hb, Nat.le_refl _, rfl, rfl, rfl⟩
    · cases e1

/-- a block of its own, made -/
def NewS (P : Program) (ρ : Rn) (w : World) (s : Sem Value) (b : B) (mk : Nat → V) : Prop :=
  ∃ o tot n, s.run P w = .ok n { w with heap := w.heap.push o } ∧ clsOf b = 0 ∧ ∀ ρ' id cl, ρ.le ρ' → ρ' id = some ⟨w.heap.size, 0, tot⟩ →
    BR P ρ' cl b ⟨w.heap.size, 0, tot⟩ { w with heap := w.heap.push o } ∧ VR ρ' (mk id) n

theorem cellsAt_of {l : List V} {l' : List Value} (h : VRs ρ l l') : CellsAt ρ l'.toArray 0 l := by
  intro j v hj
  obtain ⟨v', a, b⟩ := h.get hj
  exact ⟨v', by simpa using a, b⟩
theorem BR.new {l : List V} {l' : List Value} {e tot : Nat} {cl : T Cl} {ρ' : Rn} (h : VRs ρ l l') (h1 : allOne l = true) (hle : ρ.le ρ') :
    BR P ρ' cl (.cells l e 0) ⟨w.heap.size, 0, tot⟩ { w with heap := w.heap.push (.cells l'.toArray e (0, 0)) } :=
  ⟨rfl, h1, l'.toArray, by simp, by simp [h.length], (cellsAt_of h).mono hle⟩

theorem rep_s {α : Type} (n : Nat) (l : List α) : rep (n + 1) l = l ++ rep n l := lapp_eq _ _
theorem rep_length {α : Type} (n : Nat) (l : List α) : (rep n l).length = n * l.length := by
  induction n with
  | zero => exact (by simp : ([] : List α).length = 0 * l.length)
  | succ n ih => rw [rep_s, List.length_append, ih, Nat.add_one_mul]; omega
theorem rep_VRs {l : List V} {l' : List Value} (h : VRs ρ l l') (n : Nat) : VRs ρ (rep n l) (rep n l') := by
  induction n with
  | zero => exact .nil
  | succ n ih => rw [rep_s, rep_s]; exact h.append ih
theorem rep_allOne {l : List V} (h : allOne l = true) (n : Nat) : allOne (rep n l) = true := by
  induction n with
  | zero => rfl
  | succ n ih =>
    rw [rep_s, allOne_iff]
    intro v hv
    rcases List.mem_append.1 hv with h' | h'
    · exact (allOne_iff l).1 h v h'
    · exact (allOne_iff _).1 ih v h'
theorem rep_get {α : Type} (n : Nat) (l : List α) (i : Nat) (hi : i < n * l.length) : (rep n l)[i]? = l[i % l.length]? := by
  induction n generalizing i with
  | zero => simp at hi
  | succ n ih =>
    rw [rep_s]
    rcases Nat.lt_or_ge i l.length with h | h
    · rw [List.getElem?_append_left h, Nat.mod_eq_of_lt h]
    · rw [List.getElem?_append_right h, ih _ (by rw [Nat.add_one_mul] at hi; omega), Nat.mod_eq_sub_mod h]
theorem rep_array (n : Nat) (z : List Value) : (Array.range (n * z.length)).map (fun x => z.toArray[x % z.toArray.size]!) = (rep n z).toArray := by
  apply Array.ext_getElem?
  intro i
  rw [Array.getElem?_map]
  rcases Nat.lt_or_ge i (n * z.length) with h | h
  · have hz : 0 < z.length := by
      rcases Nat.eq_zero_or_pos z.length with h0 | h0
      · rw [h0] at h; simp at h
      · exact h0
    have hm : i % z.length < z.length := Nat.mod_lt _ hz
    have e1 : (Array.range (n * z.length))[i]? = some i := by simp [h]
    rw [e1]
    have e2 := rep_get n z i h
    simp only [Option.map_some, List.getElem?_toArray, e2]
    rw [List.getElem?_eq_getElem hm]
    simp [hm]
  · have e1 : (Array.range (n * z.length))[i]? = none := by simp [h]
    rw [e1]
    have := rep_length n z
    simp only [Option.map_none, List.getElem?_toArray]
    rw [List.getElem?_eq_none (by omega)]

theorem map_new {t : Nat} {dr : Bool} {s : Sem Value} (hs : s.run P w = .ok (.map (some w.heap.size)) { w with heap := w.heap.push (.map #[] 0) }) :
    NewS P ρ w s (newMap P t dr) (fun id => .map id) := by
  refine ⟨.map #[] 0, 0, _, hs, ?_, ?_⟩
  · unfold newMap
    split
    · rfl
    · split <;> rfl
  · intro ρ' id cl hle hid
    refine ⟨?_, .map _ _ hid⟩
    unfold newMap
    split
    · exact ⟨#[], by simp, .nil⟩
    · split
      · exact ⟨#[], by simp, ⟨.nil, by simp, by simp, by simp⟩, ⟨by simp, by simp⟩⟩
      · exact ⟨#[], by simp, .nil⟩

theorem wrap_nat {n : Nat} (h : n < 9223372036854775808) : IntKind.i64.wrap (Int.ofNat n) = Int.ofNat n := by
  simp only [IntKind.wrap, IntKind.signed, IntKind.bits]
  simp
  omega

theorem makeSlice_sound {t : Nat} {l' c' : Value} {b : B} {mk : Nat → V} {tm : T V} {lo co : Operand} (dr : Bool)
    (hl : VR ρ (opd P tm lo) l') (hc : VR ρ (opd P tm co) c') (h : opA P dr tm (.makeSlice t lo co) = some (b, mk)) : NewS P ρ w (Instr.makeSlice t l' c') b mk := by
  simp only [opA] at h
  split at h
  · rename_i n m hn hm
    obtain ⟨k1, rfl⟩ := natOf_sound hn hl
    obtain ⟨k2, rfl⟩ := natOf_sound hm hc
    split at h
    · rename_i e he
      split at h
      · rename_i i hi
        split at h
        · rename_i z hz
          split at h
          · rename_i h1 h2 h3 h4
            rw [beq_nat, llen_eq] at h1
            rw [blt_nat] at h2
            rw [ble_nat] at h3 h4
            injection h with h; injection h with e1 e2; subst e1; subst e2
            obtain ⟨v0, z', r0, c0, vz, oz⟩ := zcells_run (w := w) (ρ := ρ) hz
            have hmx : m ≤ 281474976710656 := Nat.le_trans (Nat.le_mul_of_pos_left m h2) h3
            have w1 : IntKind.i64.wrap (Int.ofNat n) = Int.ofNat n := wrap_nat (by omega)
            have w2 : IntKind.i64.wrap (Int.ofNat m) = Int.ofNat m := wrap_nat (by omega)
            have hu := elemOf_some he
            refine ⟨.cells (rep m z').toArray e (0, 0), 0, .slice (some ⟨w.heap.size, 0, none⟩) n m, ?_, rfl, ?_⟩
            · have hsz : i.size = z'.length := by rw [← h1, vz.length]
              have hsize : szOf P e = some i.size := by unfold szOf; rw [hi]
              have g1 : (decide ((Int.ofNat m) < 0) || decide ((i.bytes : Int) * Int.ofNat m > 2 ^ 48)) = false := by
                have : (i.bytes : Int) * Int.ofNat m = ((i.bytes * m : Nat) : Int) := by simp
                rw [this]
                have : (2 : Int) ^ 48 = ((281474976710656 : Nat) : Int) := rfl
                rw [this]
                simp only [Bool.or_eq_false_iff, decide_eq_false_iff_not]
                constructor
                · simp
                · omega
              have g2 : decide ((Int.ofNat n) < 0) = false := by simp
              have g3 : decide ((Int.ofNat n) > Int.ofNat m) = false := by simp; omega
              have hask : (askRoom (m * i.bytes)).run P w = .ok () w := by
                unfold askRoom
                split <;> rfl
              simp only [Instr.makeSlice, Sem.run_bind, r_und hu, Result.andThen_ok, asInt, r_info hi, Sem.run_pure]
              have q1 : (asIntOf (.int k1 (Int.ofNat n))).run P w = .ok (k1, Int.ofNat n) w := rfl
              have q2 : (asIntOf (.int k2 (Int.ofNat m))).run P w = .ok (k2, Int.ofNat m) w := rfl
              simp only [q1, q2, Result.andThen_ok, w1, w2]
              simp only [g1, g2, g3, Bool.or_self, Bool.false_eq_true, if_false, Sem.run_bind]
              have hi' : (Int.ofNat m).toNat = m := rfl
              have hn' : (Int.ofNat n).toNat = n := rfl
              simp only [hi', hn', hask, Result.andThen_ok, r_size hsize]
              have hrow : (Array.range (m * i.size)).map (fun x => z'.toArray[x % z'.toArray.size]!) = (rep m z').toArray := by rw [hsz]; exact rep_array m z'
              by_cases h0 : m * i.size = 0
              · have : rep m z' = [] := by
                  have := rep_length m z'
                  rw [← hsz, h0] at this
                  exact List.eq_nil_of_length_eq_zero this
                have hz0 : (Array.range 0).map (fun x => (#[] : Array Value)[x % (#[] : Array Value).size]!) = ([] : List Value).toArray := by simp
                simp only [h0, if_true, Sem.run_pure, Result.andThen_ok, newRow, newObj, Sem.run_bind, this, hz0]
                rfl
              · simp only [h0, if_false, Sem.run_bind, r0, Result.andThen_ok, Sem.run_pure, c0, hrow, newRow, newObj]
                rfl
            · intro ρ' id cl hle hid
              refine ⟨BR.new (rep_VRs vz m) (rep_allOne oz m) hle, ?_⟩
              exact .slx id 0 n m _ hid h4
          · cases h
        · cases h
      · cases h
    · cases h
  · cases h

theorem buildSlice_sound {t n : Nat} {ps : Array (Nat × Operand)} {ps' : Array (Nat × Value)} {b : B} {mk : Nat → V} {tm : T V} (dr : Bool)
    (hp : PsR ρ (parts P tm ps.toList) ps'.toList) (h : opA P dr tm (.buildSlice t n ps) = some (b, mk)) : NewS P ρ w (Instr.buildSlice t n ps') b mk := by
  simp only [opA] at h
  split at h
  · rename_i e he
    split at h
    · rename_i s hs
      split at h
      · rename_i h1
        rw [ble_nat] at h1
        split at h
        · rename_i z hz
          split at h
          · rename_i h2
            rw [beq_nat, llen_eq] at h2
            split at h
            · rename_i c hc
              injection h with h; injection h with e1 e2; subst e1; subst e2
              obtain ⟨v0, z', r0, c0, vz, oz⟩ := zcells_run (w := w) (ρ := ρ) hz
              obtain ⟨r', f1, f2, f3⟩ := placeA_sound _ _ _ _ _ hc hp (rep_VRs vz n) (rep_allOne oz n)
              have hu := elemOf_some he
              refine ⟨.cells r'.toArray e (0, 0), 0, .slice (some ⟨w.heap.size, 0, none⟩) n n, ?_, rfl, ?_⟩
              · have hsz : s = z'.length := by rw [← h2, vz.length]
                have hrow : (Array.range (n * s)).map (fun x => z'.toArray[x % z'.toArray.size]!) = (rep n z').toArray := by rw [hsz]; exact rep_array n z'
                have hng : ¬ n * s > 2 ^ 24 := by omega
                simp only [Instr.buildSlice, Sem.run_bind, r_und hu, Result.andThen_ok, r_size hs, hng, if_false]
                by_cases h0 : n * s = 0
                · have hr : rep n z' = [] := by
                    have := rep_length n z'
                    rw [← hsz, h0] at this
                    exact List.eq_nil_of_length_eq_zero this
                  rw [hr] at f1
                  simp only [h0, if_true, Sem.run_bind, Sem.run_pure, Result.andThen_ok]
                  have : (Array.range 0).map (fun x => (#[] : Array Value)[x % (#[] : Array Value).size]!) = ([] : List Value).toArray := by simp
                  rw [this, f1]
                  rfl
                · simp only [h0, if_false, Sem.run_bind, r0, Result.andThen_ok, Sem.run_pure, c0, hrow, f1]
                  rfl
              · intro ρ' id cl hle hid
                refine ⟨BR.new f2 f3 hle, ?_⟩
                exact .slx id 0 n n _ hid (Nat.le_refl _)
            · cases h
          · cases h
        · cases h
      · cases h
    · cases h
  · cases h

theorem opA_new {o : Oper} {tm : T V} {ev : Operand → Value} {b : B} {mk : Nat → V} {dr : Bool} (hk : kd P o.op = .a) (h : opA P dr tm o.op = some (b, mk)) (hx : ∀ x, VR ρ (opd P tm x) (ev x)) :
    ∃ s, execOp ev o = (do pure (.value (← s)) : Sem Next) ∧ NewS P ρ w s b mk := by
  obtain ⟨dst, op, ty, pos, after, guard⟩ := o
  cases op <;> simp only [opA] at h <;> first | (cases h; done) | skip
  case alloc e =>
    split at h
    · rename_i z hz
      injection h with h; injection h with e1 e2; subst e1; subst e2
      obtain ⟨v0, z', r0, c0, vz, oz⟩ := zcells_run (w := w) (ρ := ρ) hz
      refine ⟨_, rfl, .cells z'.toArray e (0, 0), 0, .pointer (some ⟨w.heap.size, 0, none⟩), ?_, rfl, fun ρ' id cl hle hid => ⟨BR.new vz oz hle, .ptr id 0 _ hid⟩⟩
      simp only [Instr.alloc, Sem.run_bind, r0, Result.andThen_ok, newVar, newRow, newObj, c0]
      rfl
    · cases h
  case box e x =>
    split at h
    · rename_i z hz
      injection h with h; injection h with e1 e2; subst e1; subst e2
      obtain ⟨l', c0, vz, oz⟩ := cells_sound hz (hx x)
      refine ⟨_, rfl, .cells l'.toArray e (0, 0), 0, .pointer (some ⟨w.heap.size, 0, none⟩), ?_, rfl, fun ρ' id cl hle hid => ⟨BR.new vz oz hle, .ptr id 0 _ hid⟩⟩
      simp only [Instr.box, Sem.run_bind, newVar, newRow, newObj, c0]
      rfl
    · cases h
  case buildSlice t n ps => exact ⟨_, rfl, buildSlice_sound dr (parts_sound hx ps) h⟩
  case makeMap t r =>
    refine ⟨_, rfl, ?_⟩
    cases r with
    | none =>
      simp only at h
      split at h
      · rename_i hm
        injection h with h; injection h with e1 e2; subst e1; subst e2
        exact map_new rfl
      · cases h
    | some x =>
      simp only at h
      split at h
      · rename_i hn hm
        injection h with h; injection h with e1 e2; subst e1; subst e2
        obtain ⟨k, e, hu⟩ := isMapT_some hm
        obtain ⟨j, hj⟩ := natOf_sound hn (hx x)
        refine map_new ?_
        simp only [Instr.makeMap, Option.map, hj, Sem.run_bind, r_und hu, Result.andThen_ok, asInt]
        rfl
      · cases h
  case makeSlice t l c => exact ⟨_, rfl, makeSlice_sound dr (hx l) (hx c) h⟩

/-- AN OPERATION THAT MAKES A BLOCK -/
theorem opA_sound {o : Oper} {tm : T V} {ev : Operand → Value} {b : B} {mk : Nat → V} {al : Option Nat} {dr : Bool} {h h' : H} {id : Nat} (hr : HR P ρ h w) (hk : kd P o.op = .a) (ho : opA P dr tm o.op = some (b, mk))
    (hv : newAt al b h = some (id, h')) (hx : ∀ x, VR ρ (opd P tm x) (ev x)) : OpS P ρ h w (execOp ev o) (mk id) h' := by
  obtain ⟨s, e, ob, tot, n, hs, hc, hb⟩ := opA_new (w := w) hk ho hx
  obtain ⟨g1, g2, g3, g4, g5, g6⟩ := newAt_some hv hr.lt
  obtain ⟨hbr, hvr⟩ := hb (ρ.add id ⟨w.heap.size, 0, tot⟩) id h'.cl (hr.le_add g1 _) (Rn.add_same _ _ _)
  obtain ⟨x, y⟩ := hr.add (w' := { w with heap := w.heap.push ob }) (tot := tot) (b := b) (o := ob) g1 g2 g3 g4 g5 (fun k _ => by rw [g6]) (fun hp => absurd hp (by omega)) rfl rfl rfl rfl hbr
  refine ⟨_, _, .value n, n, ?_, .inl rfl, x, y, hvr⟩
  rw [e]
  simp only [Sem.run_bind, hs, Result.andThen_ok, Sem.run_pure]
end Go.Ev
