/- What the told functions answer. No statement is proved here. -/
import Derived.Test.YtppcdaliielpgaaA1

section
set_option linter.unusedVariables false
namespace Go.Vsi

/-- From some number of rounds on. -/
def Ev (P : Nat → Prop) : Prop := ∃ N, ∀ n, N ≤ n → P n

theorem Ev.succ {P : Nat → Prop} : Ev (fun n => P (n + 1)) → Ev P
  | ⟨N, h⟩ => ⟨N + 1, fun n hn => by obtain ⟨m, rfl⟩ : ∃ m, n = m + 1 := ⟨n - 1, by omega⟩; exact h m (by omega)⟩

theorem Ev.shift {P : Nat → Prop} : Ev P → Ev (fun n => P (n + 1))
  | ⟨N, h⟩ => ⟨N, fun n hn => h (n + 1) (by omega)⟩

theorem Ev.and {P Q : Nat → Prop} : Ev P → Ev Q → Ev (fun n => P n ∧ Q n)
  | ⟨N, h⟩, ⟨M, g⟩ => ⟨max N M, fun n hn => ⟨h n (by omega), g n (by omega)⟩⟩

theorem Ev.const {p : Prop} (h : p) : Ev (fun _ => p) := ⟨0, fun _ _ => h⟩

theorem Ev.imp {P Q : Nat → Prop} (hpq : ∀ n, P n → Q n) : Ev P → Ev Q
  | ⟨N, h⟩ => ⟨N, fun n hn => hpq n (h n hn)⟩

theorem Ev.grd {b : Bool} {P : Nat → Prop} (hb : b = true) (h : Ev P) : Ev (fun n => grd b (P n)) := by
  subst hb; exact h

theorem Ev.ite {c : Prop} [Decidable c] {P Q : Nat → Prop} (h1 : c → Ev P) (h2 : ¬ c → Ev Q) : Ev (fun n => if c then P n else Q n) := by
  by_cases h : c
  · simp only [if_pos h]; exact h1 h
  · simp only [if_neg h]; exact h2 h

theorem Ev.pos {c : Prop} [Decidable c] {P Q : Nat → Prop} (h : c) (h1 : Ev P) : Ev (fun n => if c then P n else Q n) := by
  simp only [if_pos h]; exact h1

theorem Ev.neg {c : Prop} [Decidable c] {P Q : Nat → Prop} (h : ¬ c) (h1 : Ev Q) : Ev (fun n => if c then P n else Q n) := by
  simp only [if_neg h]; exact h1

theorem Ev.some {P : Nat → Prop} : Ev P → ∃ n, P n
  | ⟨N, h⟩ => ⟨N, h N (Nat.le_refl _)⟩

/-! ### Whole numbers in range -/

theorem wrap64 {x : Int} (h1 : -9223372036854775808 ≤ x) (h2 : x < 9223372036854775808) : IntKind.wrap .i64 x = x := by
  simp only [IntKind.wrap, IntKind.bits, IntKind.signed, Bool.true_and]
  split <;> simp_all <;> omega

theorem wrapU {x : Int} (h1 : 0 ≤ x) (h2 : x < 18446744073709551616) : IntKind.wrap .u64 x = x := by
  simp only [IntKind.wrap, IntKind.bits, IntKind.signed, Bool.false_and]
  simp; omega

theorem wrapUm (x : Int) : IntKind.wrap .u64 x = x % 18446744073709551616 := by
  simp only [IntKind.wrap, IntKind.bits, IntKind.signed, Bool.false_and]
  simp

theorem wrapUr (x : Int) : 0 ≤ IntKind.wrap .u64 x ∧ IntKind.wrap .u64 x < 18446744073709551616 := by
  rw [wrapUm]; omega

theorem wrap64r (x : Int) : -9223372036854775808 ≤ IntKind.wrap .i64 x ∧ IntKind.wrap .i64 x < 9223372036854775808 := by
  simp only [IntKind.wrap, IntKind.bits, IntKind.signed, Bool.true_and]
  split <;> simp_all <;> omega

theorem wrap8 {x : Int} (h1 : 0 ≤ x) (h2 : x < 256) : IntKind.wrap .u8 x = x := by
  simp only [IntKind.wrap, IntKind.bits, IntKind.signed, Bool.false_and]
  simp; omega

theorem wrap8m (x : Int) : IntKind.wrap .u8 x = x % 256 := by
  simp only [IntKind.wrap, IntKind.bits, IntKind.signed, Bool.false_and]
  simp

theorem tdivP {x m : Int} (h : 0 ≤ x) : Int.tdiv x m = x / m := Int.tdiv_eq_ediv_of_nonneg h
theorem tmodP {x m : Int} (h : 0 ≤ x) : Int.tmod x m = x % m := Int.tmod_eq_emod_of_nonneg h

theorem tmodR {x m : Int} (hm : 0 < m) : -m < Int.tmod x m ∧ Int.tmod x m < m :=
  ⟨Int.lt_tmod_of_pos x hm, Int.tmod_lt_of_pos x hm⟩

theorem fdivP {x m : Int} (h : 0 ≤ m) : Int.fdiv x m = x / m := Int.fdiv_eq_ediv_of_nonneg x h

/-! ### Words -/

/-- Natural numbers as whole numbers. -/
def W (ws : List Nat) : List Int := ws.map Int.ofNat

theorem W_len (ws : List Nat) : (W ws).length = ws.length := by simp [W]

theorem W_rd (ws : List Nat) (i : Nat) : rd (W ws) i = ((ws.getD i 0 : Nat) : Int) := by
  simp only [rd, W, List.getD_eq_getElem?_getD, List.getElem?_map]
  cases ws[i]? <;> rfl

theorem W_set (ws : List Nat) (i x : Nat) : List.set (W ws) i (x : Int) = W (ws.set i x) := by
  simp only [W, List.map_set]; rfl

theorem W_rep (n : Nat) : List.replicate n (0 : Int) = W (List.replicate n 0) := by simp [W]

theorem W_app (a b : List Nat) : W a ++ W b = W (a ++ b) := by simp [W]

theorem W_nil : ([] : List Int) = W [] := rfl

theorem W_inj : ∀ {a b : List Nat}, W a = W b → a = b
  | [], [], _ => rfl
  | [], y :: b, h => by simp [W] at h
  | x :: a, [], h => by simp [W] at h
  | x :: a, y :: b, h => by
    simp only [W, List.map_cons, List.cons.injEq] at h
    exact congr (congrArg List.cons (Int.ofNat.inj h.1)) (W_inj h.2)

/-- Every word is below m. -/
def Below (m : Nat) (ws : List Nat) : Prop := ∀ x ∈ ws, x < m

theorem W_of {m : Nat} : ∀ {l : List Int}, (∀ x ∈ l, 0 ≤ x ∧ x < (m : Int)) → ∃ ws, l = W ws ∧ Below m ws
  | [], _ => ⟨[], rfl, by simp [Below]⟩
  | x :: l, h => by
    obtain ⟨ws, rfl, hb⟩ := W_of (l := l) fun y hy => h y (by simp [hy])
    have hx := h x (by simp)
    refine ⟨x.toNat :: ws, ?_, ?_⟩
    · simp only [W, List.map_cons, List.cons.injEq, and_true]
      show x = (x.toNat : Int); omega
    · intro y hy
      simp only [List.mem_cons] at hy
      rcases hy with rfl | hy
      · omega
      · exact hb y hy

theorem Below.getD {m : Nat} {ws : List Nat} (h : Below m ws) (hm : 0 < m) (i : Nat) : ws.getD i 0 < m := by
  rw [List.getD_eq_getElem?_getD]
  cases hw : ws[i]? with
  | none => exact hm
  | some y => exact h y (List.mem_of_getElem? hw)

theorem Below.set {m : Nat} {ws : List Nat} (h : Below m ws) {i x : Nat} (hx : x < m) : Below m (ws.set i x) := by
  intro y hy
  rcases List.mem_or_eq_of_mem_set hy with h' | rfl
  · exact h y h'
  · exact hx

theorem Below.app {m : Nat} {a b : List Nat} (ha : Below m a) (hb : Below m b) : Below m (a ++ b) := by
  intro y hy
  rcases List.mem_append.mp hy with h | h
  · exact ha y h
  · exact hb y h

theorem Below.rep {m n : Nat} (hm : 0 < m) : Below m (List.replicate n 0) := by
  intro y hy
  rw [List.eq_of_mem_replicate hy]; exact hm

/-! ### Operations on words -/

theorem or_W {a b : Nat} (ha : a < 18446744073709551616) (hb : b < 18446744073709551616) : ibits .or .u64 (a : Int) (b : Int) = ((a ||| b : Nat) : Int) := by
  have hab : a ||| b < 2 ^ 64 := Nat.or_lt_two_pow ha hb
  show IntKind.wrap .u64 (((BitVec.ofInt 64 (a : Int) ||| BitVec.ofInt 64 (b : Int) : BitVec 64).toNat : Nat) : Int) = _
  rw [BitVec.toNat_or, BitVec.ofInt_natCast, BitVec.ofInt_natCast, BitVec.toNat_ofNat, BitVec.toNat_ofNat]
  rw [Nat.mod_eq_of_lt ha, Nat.mod_eq_of_lt hb]
  exact wrapU (by omega) (by omega)

theorem and_W {a b : Nat} (ha : a < 18446744073709551616) (hb : b < 18446744073709551616) : ibits .and .u64 (a : Int) (b : Int) = ((a &&& b : Nat) : Int) := by
  have hab : a &&& b < 2 ^ 64 := Nat.and_lt_two_pow a hb
  show IntKind.wrap .u64 (((BitVec.ofInt 64 (a : Int) &&& BitVec.ofInt 64 (b : Int) : BitVec 64).toNat : Nat) : Int) = _
  rw [BitVec.toNat_and, BitVec.ofInt_natCast, BitVec.ofInt_natCast, BitVec.toNat_ofNat, BitVec.toNat_ofNat]
  rw [Nat.mod_eq_of_lt ha, Nat.mod_eq_of_lt hb]
  exact wrapU (by omega) (by omega)

theorem ibitsU (op : BinOp) (x y : Int) : 0 ≤ ibits op .u64 x y ∧ ibits op .u64 x y < 18446744073709551616 := by
  cases op <;> first | exact wrapUr _ | (constructor <;> decide)

theorem shl_W (a k : Nat) (hk : k ≤ 64) : IntKind.wrap .u64 ((a : Int) * 2 ^ (Nat.min k 64)) = (((a <<< k) % 18446744073709551616 : Nat) : Int) := by
  rw [wrapUm, show Nat.min k 64 = k from Nat.min_eq_left hk, Nat.shiftLeft_eq]
  simp

theorem shr_W (a k : Nat) (hk : k ≤ 64) : Int.fdiv (a : Int) (2 ^ (Nat.min k 64)) = ((a >>> k : Nat) : Int) := by
  rw [fdivP (Int.le_of_lt (Int.pow_pos (by decide))), show Nat.min k 64 = k from Nat.min_eq_left hk, Nat.shiftRight_eq_div_pow]
  simp

/-! ### Bits -/

/-- One bit of a row of words. -/
def bit (ws : List Nat) (i : Nat) : Bool := (ws.getD (i / 64) 0).testBit (i % 64)

theorem bit_set {ws : List Nat} {k x : Nat} (hk : k < ws.length) (i : Nat) : bit (ws.set k x) i = if i / 64 = k then x.testBit (i % 64) else bit ws i := by
  simp only [bit, List.getD_eq_getElem?_getD, List.getElem?_set]
  by_cases h : i / 64 = k
  · subst h; simp [hk]
  · rw [if_neg (fun h' => h h'.symm), if_neg h]

theorem bit_out {ws : List Nat} {i : Nat} (h : 64 * ws.length ≤ i) : bit ws i = false := by
  have : ws.length ≤ i / 64 := by omega
  simp [bit, List.getD_eq_getElem?_getD, List.getElem?_eq_none this]

theorem bit_rep (n i : Nat) : bit (List.replicate n 0) i = false := by
  simp only [bit, List.getD_eq_getElem?_getD, List.getElem?_replicate]
  split <;> simp

theorem words_ext {a b : List Nat} (hl : a.length = b.length) (ha : Below 18446744073709551616 a) (hb : Below 18446744073709551616 b)
    (h : ∀ i, i < 64 * a.length → bit a i = bit b i) : a = b := by
  apply List.ext_getElem hl
  intro k h1 h2
  apply Nat.eq_of_testBit_eq
  intro j
  by_cases hj : j < 64
  · have := h (64 * k + j) (by omega)
    have e1 : (64 * k + j) / 64 = k := by omega
    have e2 : (64 * k + j) % 64 = j := by omega
    simpa [bit, e1, e2, List.getD_eq_getElem?_getD, h1, h2] using this
  · have p : ∀ x, x < 18446744073709551616 → x.testBit j = false := fun x hx =>
      Nat.testBit_lt_two_pow (Nat.lt_of_lt_of_le hx (Nat.pow_le_pow_right (n := 2) (by decide) (Nat.not_lt.mp hj)))
    rw [p _ (ha _ (List.getElem_mem h1)), p _ (hb _ (List.getElem_mem h2))]

/-! ### How many -/

/-- How many of the first n. -/
def cnt (f : Nat → Bool) : Nat → Nat
  | 0 => 0
  | n + 1 => cnt f n + (f n).toNat

theorem cnt_ext {f g : Nat → Bool} : ∀ {n : Nat}, (∀ i, i < n → f i = g i) → cnt f n = cnt g n
  | 0, _ => rfl
  | n + 1, h => by simp only [cnt]; rw [cnt_ext (fun i hi => h i (by omega)), h n (by omega)]

theorem cnt_add (f : Nat → Bool) (a : Nat) : ∀ b, cnt f (a + b) = cnt f a + cnt (fun i => f (a + i)) b
  | 0 => rfl
  | b + 1 => by show cnt f (a + b) + (f (a + b)).toNat = cnt f a + (cnt (fun i => f (a + i)) b + (f (a + b)).toNat); rw [cnt_add f a b]; omega

theorem cnt_zero {f : Nat → Bool} : ∀ {n : Nat}, (∀ i, i < n → f i = false) → cnt f n = 0
  | 0, _ => rfl
  | n + 1, h => by simp only [cnt]; rw [cnt_zero (fun i hi => h i (by omega)), h n (by omega)]; rfl

theorem cnt_le (f : Nat → Bool) : ∀ n, cnt f n ≤ n
  | 0 => Nat.le_refl _
  | n + 1 => by
    have := cnt_le f n
    simp only [cnt]
    cases f n <;> simp <;> omega

end Go.Vsi
end

section
set_option linter.unusedVariables false
namespace Go.Vsi

theorem Ev.suc {P : Nat → Prop} : Ev P ↔ Ev (fun n => P (n + 1)) := ⟨Ev.shift, Ev.succ⟩

theorem Ev.s0 (R : Nat → Prop) : Ev (fun n => R (n + 1)) ↔ Ev (fun n => R n) := ⟨Ev.succ, Ev.shift⟩
theorem Ev.s1 {α : Type} (R : Nat → α → Prop) (a : α) : Ev (fun n => R (n + 1) a) ↔ Ev (fun n => R n a) := Ev.s0 (fun n => R n a)
theorem Ev.s2 {α β : Type} (R : Nat → α → β → Prop) (a : α) (b : β) : Ev (fun n => R (n + 1) a b) ↔ Ev (fun n => R n a b) := Ev.s0 (fun n => R n a b)
theorem Ev.s3 {α β γ : Type} (R : Nat → α → β → γ → Prop) (a : α) (b : β) (c : γ) : Ev (fun n => R (n + 1) a b c) ↔ Ev (fun n => R n a b c) := Ev.s0 (fun n => R n a b c)
theorem Ev.s4 {α β γ δ : Type} (R : Nat → α → β → γ → δ → Prop) (a : α) (b : β) (c : γ) (d : δ) : Ev (fun n => R (n + 1) a b c d) ↔ Ev (fun n => R n a b c d) := Ev.s0 (fun n => R n a b c d)
theorem Ev.s5 {α β γ δ ε : Type} (R : Nat → α → β → γ → δ → ε → Prop) (a : α) (b : β) (c : γ) (d : δ) (e : ε) : Ev (fun n => R (n + 1) a b c d e) ↔ Ev (fun n => R n a b c d e) := Ev.s0 (fun n => R n a b c d e)
theorem Ev.s6 {α β γ δ ε ζ : Type} (R : Nat → α → β → γ → δ → ε → ζ → Prop) (a : α) (b : β) (c : γ) (d : δ) (e : ε) (f : ζ) : Ev (fun n => R (n + 1) a b c d e f) ↔ Ev (fun n => R n a b c d e f) := Ev.s0 (fun n => R n a b c d e f)
theorem Ev.s7 {α β γ δ ε ζ η : Type} (R : Nat → α → β → γ → δ → ε → ζ → η → Prop) (a : α) (b : β) (c : γ) (d : δ) (e : ε) (f : ζ) (g : η) : Ev (fun n => R (n + 1) a b c d e f g) ↔ Ev (fun n => R n a b c d e f g) := Ev.s0 (fun n => R n a b c d e f g)

@[simp] theorem Ev.k {p : Prop} : Ev (fun _ => p) ↔ p := ⟨fun ⟨_, h⟩ => h _ (Nat.le_refl _), Ev.const⟩

@[simp] theorem Ev.iteI {c : Prop} [Decidable c] {P Q : Nat → Prop} : Ev (fun n => if c then P n else Q n) ↔ if c then Ev P else Ev Q := by
  by_cases h : c <;> simp only [h, if_true, if_false]

@[simp] theorem Ev.andI {P Q : Nat → Prop} : Ev (fun n => P n ∧ Q n) ↔ Ev P ∧ Ev Q :=
  ⟨fun ⟨N, h⟩ => ⟨⟨N, fun n hn => (h n hn).1⟩, ⟨N, fun n hn => (h n hn).2⟩⟩, fun h => Ev.and h.1 h.2⟩

theorem grd_dec {p : Prop} [Decidable p] {P : Prop} (h : p) : grd (decide p) P ↔ P := by rw [decide_eq_true h]; exact Iff.rfl
theorem grd_dec2 {p q : Prop} [Decidable p] [Decidable q] {P : Prop} (h : p ∧ q) : grd (decide p && decide q) P ↔ P := by rw [decide_eq_true h.1, decide_eq_true h.2]; exact Iff.rfl
theorem grd_dec3 {p q r : Prop} [Decidable p] [Decidable q] [Decidable r] {P : Prop} (h : p ∧ q ∧ r) : grd (decide p && decide q && decide r) P ↔ P := by rw [decide_eq_true h.1, decide_eq_true h.2.1, decide_eq_true h.2.2]; exact Iff.rfl
theorem grd_dec4 {p q r s : Prop} [Decidable p] [Decidable q] [Decidable r] [Decidable s] {P : Prop} (h : p ∧ q ∧ r ∧ s) : grd (decide p && decide q && decide r && decide s) P ↔ P := by rw [decide_eq_true h.1, decide_eq_true h.2.1, decide_eq_true h.2.2.1, decide_eq_true h.2.2.2]; exact Iff.rfl
theorem grd_dec4' {p q r s : Prop} [Decidable p] [Decidable q] [Decidable r] [Decidable s] {P : Prop} (h : p ∧ q ∧ r ∧ s) : grd ((decide p && (decide q && decide r)) && decide s) P ↔ P := by rw [decide_eq_true h.1, decide_eq_true h.2.1, decide_eq_true h.2.2.1, decide_eq_true h.2.2.2]; exact Iff.rfl
theorem grd_not {p : Prop} [Decidable p] {P : Prop} (h : ¬ p) : grd (!(decide p)) P ↔ P := by rw [decide_eq_false h]; exact Iff.rfl
@[simp] theorem grd_true {P : Prop} : grd true P ↔ P := Iff.rfl

/-! ### Lists, from a place on -/

theorem drop_nil {α : Type} {l : List α} {x : Int} (h : l.drop x.toNat = []) (h0 : 0 ≤ x) : (l.length : Int) ≤ x := by
  have := List.drop_eq_nil_iff.1 h; omega

theorem drop_cons {α : Type} [Inhabited α] {l ys : List α} {x : Int} {y : α} (h : l.drop x.toNat = y :: ys) (h0 : 0 ≤ x) :
    x < (l.length : Int) ∧ rd l x.toNat = y ∧ l.drop (x + 1).toNat = ys := by
  have hl : x.toNat < l.length := by
    rcases Nat.lt_or_ge x.toNat l.length with h' | h'
    · exact h'
    · rw [List.drop_eq_nil_of_le h'] at h; cases h
  refine ⟨by omega, ?_, ?_⟩
  · have := List.getElem?_drop (xs := l) (i := x.toNat) (j := 0)
    rw [h] at this
    simp only [List.getElem?_cons_zero, Nat.add_zero] at this
    simp [rd, List.getD_eq_getElem?_getD, ← this]
  · rw [show (x + 1).toNat = x.toNat + 1 from by omega, ← List.drop_drop, h]; rfl

theorem drop_set {α : Type} {l ys : List α} {x : Int} {v : α} (h : l.drop (x + 1).toNat = ys) (h0 : 0 ≤ x) : (l.set x.toNat v).drop (x + 1).toNat = ys := by
  rw [List.drop_set_of_lt (by omega), h]

theorem take_set {α : Type} {l : List α} {x : Int} {v : α} (h0 : 0 ≤ x) (hx : x < (l.length : Int)) : (l.set x.toNat v).take (x + 1).toNat = l.take x.toNat ++ [v] := by
  have e : (x + 1).toNat = x.toNat + 1 := by omega
  have hl : x.toNat < l.length := by omega
  rw [e, List.take_succ_eq_append_getElem (by simpa using hl), List.take_set_of_le (by omega)]
  simp

theorem rd_set {α : Type} [Inhabited α] {l : List α} {i : Nat} {v : α} (h : i < l.length) : rd (l.set i v) i = v := by
  simp [rd, List.getD_eq_getElem?_getD, h]

theorem ev_arg {α : Type} {R : Nat → α → Prop} {a b : α} (h : a = b) : Ev (fun n => R n a) ↔ Ev (fun n => R n b) := by rw [h]
theorem ev_arg2 {α β : Type} {R : Nat → α → β → Prop} {a b : α} {c : β} (h : a = b) : Ev (fun n => R n a c) ↔ Ev (fun n => R n b c) := by rw [h]
theorem ev_arg3 {α β : Type} {R : Nat → α → β → Prop} {a b : α} {c d : β} (h : a = b) (h' : c = d) : Ev (fun n => R n a c) ↔ Ev (fun n => R n b d) := by rw [h, h']

/-- Data that came in: numbers are of their kinds, nothing is too long. -/
def Gd : (t : Ty) → t.T → Prop
  | .int k, n => k.min ≤ n ∧ n ≤ k.max
  | .str, s => s.length ≤ 9223372036854775807
  | .sl _ t, l => l.length ≤ 9223372036854775807 ∧ ∀ y, y ∈ l → Gd t y
  | .prod a b, p => Gd a p.1 ∧ Gd b p.2
  | .bool, _ => True
  | .unit, _ => True
  | .ptr _ _, _ => True

/-- The first place, counted from x on, of what passes a test; -1: none does. -/
def firstIx {α : Type} (p : α → Bool) : List α → Int → Int
  | [], _ => -1
  | y :: r, x => if p y = true then x else firstIx p r (x + 1)

theorem firstIx_neg {α : Type} {p : α → Bool} : ∀ {l : List α} {x : Int}, 0 ≤ x → firstIx p l x < 0 → firstIx p l x = -1
  | [], x, _, _ => rfl
  | y :: l, x, h0, h => by
    rw [firstIx] at h ⊢
    split
    · rename_i hp; rw [if_pos hp] at h; omega
    · rename_i hp; rw [if_neg hp] at h; exact firstIx_neg (by omega) h

theorem firstIx_any {α : Type} {p : α → Bool} : ∀ {l : List α} {x : Int}, 0 ≤ x → decide (firstIx p l x ≥ 0) = l.any p
  | [], x, _ => by simp [firstIx]
  | y :: l, x, h0 => by
    rw [firstIx, List.any_cons]
    by_cases hp : p y = true
    · simp [hp, h0]
    · rw [if_neg hp, firstIx_any (by omega)]
      simp only [Bool.not_eq_true] at hp
      simp [hp]

/-! ### What is left -/

/-- What is left behind so many. -/
def szr (left : Int) (z : Nat) : Int := if left < z then -1 else left - z
theorem szr_neg {left : Int} {z : Nat} : szr left z < 0 ↔ left < z := by unfold szr; split <;> omega
theorem szr_two {left : Int} {y z : Nat} (h : 0 ≤ left) (hy : ¬ szr left y < 0) : szr (szr left y) z = szr left (y + z) := by
  rw [szr_neg] at hy
  unfold szr; split <;> split <;> split <;> omega
theorem szr_back {left : Int} {y z : Nat} (h : szr left y < 0) : szr left (y + z) = -1 := by
  rw [szr_neg] at h; unfold szr; split <;> omega
theorem szr_m1 {left : Int} {z : Nat} (h : -1 ≤ left) : -1 ≤ szr left z := by unfold szr; split <;> omega
theorem szr_le' {left b : Int} {z : Nat} (h : -1 ≤ left) (h' : left ≤ b) : szr left z ≤ b := by unfold szr; split <;> omega

end Go.Vsi
end

section
set_option linter.unusedVariables false
set_option linter.unusedSimpArgs false
set_option synthInstance.maxSize 4096
namespace Go.Vsi
theorem laws_szUint64S_ev {l : List Int} {left : Int} (h0 : -1 ≤ left) (h1 : left ≤ 1099511627776) (hl : l.length ≤ 9223372036854775807) (R : Nat → Int → Prop) :
    Ev (fun n => laws_szUint64S.c n l left (R n)) ↔ Ev (fun n => R n (szr left l.length)) := by
  refine Ev.suc.trans ?_
  simp (disch := omega) only [laws_szUint64S.c, laws_szUint64S.w, wrap64, Ev.iteI, decide_eq_true_eq, Ev.s1 R]
  unfold szr; split <;> split <;> first | rfl | omega | exact ev_arg (by omega)

theorem laws_szBits_ev {a0 : Int} {a1 : List Int} {left : Int} (h0 : -1 ≤ left) (h1 : left ≤ 1099511627776) (h2 : a1.length ≤ 9223372036854775807) (R : Nat → Int → Prop) :
    Ev (fun n => laws_szBits.c n a0 a1 left (R n)) ↔ Ev (fun n => R n (szr left (a1.length))) := by

  refine Ev.suc.trans ?_
  simp (disch := first | assumption | omega | exact szr_m1 (by assumption) | exact szr_le' (by assumption) (by assumption)) only [laws_szBits.c, laws_szBits.w, laws_szUint64S_ev, wrap64, Ev.iteI, decide_eq_true_eq, Ev.s1 R]
  unfold szr; (repeat' split) <;> first | rfl | (exfalso; omega) | exact ev_arg (by omega)

theorem laws_szBar_ev {a0 : Int} {a1 : Int} {a2 : Int} {a3 : List Int} {left : Int} (h0 : -1 ≤ left) (h1 : left ≤ 1099511627776) (h2 : a3.length ≤ 9223372036854775807) (R : Nat → Int → Prop) :
    Ev (fun n => laws_szBar.c n a0 a1 a2 a3 left (R n)) ↔ Ev (fun n => R n (szr left (a3.length))) := by

  refine Ev.suc.trans ?_
  simp (disch := first | assumption | omega | exact szr_m1 (by assumption) | exact szr_le' (by assumption) (by assumption)) only [laws_szBar.c, laws_szBar.w, laws_szBits_ev, wrap64, Ev.iteI, decide_eq_true_eq, Ev.s1 R]
  unfold szr; (repeat' split) <;> first | rfl | (exfalso; omega) | exact ev_arg (by omega)

def sBarS : List tBar → Nat
  | [] => 0
  | y :: r => y.2.2.2.length + sBarS r

theorem sBarS_mem {y : tBar} : ∀ {l : List tBar}, y ∈ l → y.2.2.2.length ≤ sBarS l
  | [], h => absurd h List.not_mem_nil
  | a :: l, h => by
    rw [sBarS]
    rcases List.mem_cons.1 h with rfl | h
    · omega
    · have := sBarS_mem h; omega

abbrev yBar : Ty := .prod (.int .i64) (.prod (.int .i64) (.prod (.int .i64) (.sl 0 (.int .u64))))

theorem szBarS_gd {l : List tBar} (h : Gd (.sl 0 yBar) l) : ∀ y : tBar, y ∈ l → y.2.2.2.length ≤ 9223372036854775807 := fun y hy => (h.2 y hy).2.2.2.1

theorem laws_szBarS_lp {l : List tBar} (hl : l.length ≤ 9223372036854775807) : ∀ (ys : List tBar) (x left : Int), l.drop x.toNat = ys → 0 ≤ x → 0 ≤ left → left ≤ 1099511627776 → (∀ y ∈ ys, y.2.2.2.length ≤ 9223372036854775807) → ∀ (Kx : Nat → Int → Prop),
    (Ev (fun n => laws_szBarS.l5 n l left x (Kx n) (Kx n)) ↔ Ev (fun n => Kx n (szr left (sBarS ys))))
  | [], x, left, h, h0, h1, h2, hy, Kx => by
    have := drop_nil h h0
    refine Ev.suc.trans ?_
    simp (disch := omega) only [laws_szBarS.l5, laws_szBarS.l5.b, if_neg, decide_eq_true_eq, Ev.s1 Kx, sBarS]
    refine ev_arg ?_; unfold szr; split <;> omega
  | y :: ys, x, left, h, h0, h1, h2, hy, Kx => by
    obtain ⟨e1, e2, e3⟩ := drop_cons h h0
    have hy0 := hy y List.mem_cons_self
    refine Ev.suc.trans ?_
    simp (disch := first | assumption | exact hy0.1 | exact hy0.2 | exact hy0.2.1 | exact hy0.2.2 | exact hy0.2.2.1 | exact hy0.2.2.2 | omega) only [laws_szBarS.l5, laws_szBarS.l5.b, if_pos, decide_eq_true_eq, Ev.s1 Kx, grd_dec2, e2, laws_szBar_ev, Ev.iteI, wrap64]
    split
    · rename_i hs
      rw [sBarS, szr_back hs]
    · rename_i hs
      rw [laws_szBarS_lp hl ys (x + 1) _ e3 (by omega) (by omega) (szr_le' (by omega) h2) (fun y hy' => hy y (List.mem_cons_of_mem _ hy')), sBarS, szr_two h1 hs, Ev.s1 Kx]

theorem laws_szBarS_ev {l : List tBar} {left : Int} (h0 : -1 ≤ left) (h1 : left ≤ 1099511627776) (hl : l.length ≤ 9223372036854775807) (hy : ∀ y ∈ l, y.2.2.2.length ≤ 9223372036854775807) (R : Nat → Int → Prop) :
    Ev (fun n => laws_szBarS.c n l left (R n)) ↔ Ev (fun n => R n (szr left (l.length + sBarS l))) := by
  refine Ev.suc.trans ?_
  simp (disch := omega) only [laws_szBarS.c, laws_szBarS.w, wrap64, Ev.iteI, decide_eq_true_eq, Ev.s1 R]
  split
  · refine ev_arg ?_; unfold szr; split <;> omega
  · rw [laws_szBarS_lp hl l 0 _ rfl (by omega) (by omega) (by omega) hy, Ev.s1 R]
    refine ev_arg ?_; unfold szr; (repeat' split) <;> omega

theorem laws_szSplit_ev {a0 : Int} {a1 : Int} {a2 : List (Int × Int × Int × List (Int))} {left : Int} (h0 : -1 ≤ left) (h1 : left ≤ 1099511627776) (h2 : a2.length ≤ 9223372036854775807) (h3 : (∀ y : tBar, y ∈ a2 → y.2.2.2.length ≤ 9223372036854775807)) (R : Nat → Int → Prop) :
    Ev (fun n => laws_szSplit.c n a0 a1 a2 left (R n)) ↔ Ev (fun n => R n (szr left ((a2.length + sBarS a2)))) := by

  refine Ev.suc.trans ?_
  simp (disch := first | assumption | omega | exact szr_m1 (by assumption) | exact szr_le' (by assumption) (by assumption)) only [laws_szSplit.c, laws_szSplit.w, laws_szBarS_ev, wrap64, Ev.iteI, decide_eq_true_eq, Ev.s1 R]
  unfold szr; (repeat' split) <;> first | rfl | (exfalso; omega) | exact ev_arg (by omega)

def sSplitS : List tSplit → Nat
  | [] => 0
  | y :: r => ((y.2.2.length + sBarS y.2.2)) + sSplitS r

theorem sSplitS_mem {y : tSplit} : ∀ {l : List tSplit}, y ∈ l → (y.2.2.length + sBarS y.2.2) ≤ sSplitS l
  | [], h => absurd h List.not_mem_nil
  | a :: l, h => by
    rw [sSplitS]
    rcases List.mem_cons.1 h with rfl | h
    · omega
    · have := sSplitS_mem h; omega

abbrev ySplit : Ty := .prod (.int .i64) (.prod (.int .i64) (.sl 0 (.prod (.int .i64) (.prod (.int .i64) (.prod (.int .i64) (.sl 0 (.int .u64)))))))

theorem szSplitS_gd {l : List tSplit} (h : Gd (.sl 0 ySplit) l) : ∀ y : tSplit, y ∈ l → y.2.2.length ≤ 9223372036854775807 ∧ (∀ z : tBar, z ∈ y.2.2 → z.2.2.2.length ≤ 9223372036854775807) := fun y hy => ⟨(h.2 y hy).2.2.1, (fun z hz => ((h.2 y hy).2.2.2 z hz).2.2.2.1)⟩

theorem laws_szSplitS_lp {l : List tSplit} (hl : l.length ≤ 9223372036854775807) : ∀ (ys : List tSplit) (x left : Int), l.drop x.toNat = ys → 0 ≤ x → 0 ≤ left → left ≤ 1099511627776 → (∀ y ∈ ys, y.2.2.length ≤ 9223372036854775807 ∧ (∀ z : tBar, z ∈ y.2.2 → z.2.2.2.length ≤ 9223372036854775807)) → ∀ (Kx : Nat → Int → Prop),
    (Ev (fun n => laws_szSplitS.l5 n l left x (Kx n) (Kx n)) ↔ Ev (fun n => Kx n (szr left (sSplitS ys))))
  | [], x, left, h, h0, h1, h2, hy, Kx => by
    have := drop_nil h h0
    refine Ev.suc.trans ?_
    simp (disch := omega) only [laws_szSplitS.l5, laws_szSplitS.l5.b, if_neg, decide_eq_true_eq, Ev.s1 Kx, sSplitS]
    refine ev_arg ?_; unfold szr; split <;> omega
  | y :: ys, x, left, h, h0, h1, h2, hy, Kx => by
    obtain ⟨e1, e2, e3⟩ := drop_cons h h0
    have hy0 := hy y List.mem_cons_self
    refine Ev.suc.trans ?_
    simp (disch := first | assumption | exact hy0.1 | exact hy0.2 | exact hy0.2.1 | exact hy0.2.2 | exact hy0.2.2.1 | exact hy0.2.2.2 | omega) only [laws_szSplitS.l5, laws_szSplitS.l5.b, if_pos, decide_eq_true_eq, Ev.s1 Kx, grd_dec2, e2, laws_szSplit_ev, Ev.iteI, wrap64]
    split
    · rename_i hs
      rw [sSplitS, szr_back hs]
    · rename_i hs
      rw [laws_szSplitS_lp hl ys (x + 1) _ e3 (by omega) (by omega) (szr_le' (by omega) h2) (fun y hy' => hy y (List.mem_cons_of_mem _ hy')), sSplitS, szr_two h1 hs, Ev.s1 Kx]

theorem laws_szSplitS_ev {l : List tSplit} {left : Int} (h0 : -1 ≤ left) (h1 : left ≤ 1099511627776) (hl : l.length ≤ 9223372036854775807) (hy : ∀ y ∈ l, y.2.2.length ≤ 9223372036854775807 ∧ (∀ z : tBar, z ∈ y.2.2 → z.2.2.2.length ≤ 9223372036854775807)) (R : Nat → Int → Prop) :
    Ev (fun n => laws_szSplitS.c n l left (R n)) ↔ Ev (fun n => R n (szr left (l.length + sSplitS l))) := by
  refine Ev.suc.trans ?_
  simp (disch := omega) only [laws_szSplitS.c, laws_szSplitS.w, wrap64, Ev.iteI, decide_eq_true_eq, Ev.s1 R]
  split
  · refine ev_arg ?_; unfold szr; split <;> omega
  · rw [laws_szSplitS_lp hl l 0 _ rfl (by omega) (by omega) (by omega) hy, Ev.s1 R]
    refine ev_arg ?_; unfold szr; (repeat' split) <;> omega

theorem laws_toUint64S_lp {l : List Int} (hl : l.length ≤ 1048576) : ∀ (ys : List Int) (x : Int) (o : List Int), l.drop x.toNat = ys → 0 ≤ x → o.length = l.length → ∀ (Kx : Nat → List Int → Prop),
    (Ev (fun n => laws_toUint64S.l3 n l x o (Kx n)) ↔ Ev (fun n => Kx n (o.take x.toNat ++ ys)))
  | [], x, o, h, h0, ho, Kx => by
    have := drop_nil h h0
    refine Ev.suc.trans ?_
    simp (disch := omega) only [laws_toUint64S.l3, laws_toUint64S.l3.b, if_neg, decide_eq_true_eq, Ev.s1 Kx]
    rw [List.take_of_length_le (by omega), List.append_nil]
  | y :: ys, x, o, h, h0, ho, Kx => by
    obtain ⟨e1, e2, e3⟩ := drop_cons h h0
    refine Ev.suc.trans ?_
    simp (disch := omega) only [laws_toUint64S.l3, laws_toUint64S.l3.b, if_pos, decide_eq_true_eq, Ev.s1 Kx, grd_dec2, e2, wrap64]
    rw [laws_toUint64S_lp hl ys (x + 1) _ e3 (by omega) (by simpa using ho), Ev.s1 Kx, take_set (by omega) (by omega), List.append_assoc]
    rfl

theorem laws_toUint64S_ev {l : List Int} (h : l.length ≤ 1048576) (R : Nat → List Int → Prop) :
    Ev (fun n => laws_toUint64S.c n l (R n)) ↔ Ev (fun n => R n l) := by
  refine Ev.suc.trans ?_
  simp (disch := omega) only [laws_toUint64S.c, laws_toUint64S.w, grd_dec2, decide_true, Bool.and_true]
  rw [laws_toUint64S_lp (by omega) l 0 _ rfl (by omega) (by simp), Ev.s1 R]
  simp

theorem laws_toBits_ev {a0 : Int} {a1 : List Int} (h : a1.length ≤ 1048576) (R : Nat → Int → List Int → Prop) :
    Ev (fun n => laws_toBits.c n a0 a1 (R n)) ↔ Ev (fun n => R n a0 a1) := by
  refine Ev.suc.trans ?_
  simp (disch := omega) only [laws_toBits.c, laws_toBits.w, laws_toUint64S_ev, Ev.s2 R]

theorem laws_toBar_ev {a0 : Int} {a1 : Int} {a2 : Int} {a3 : List Int} (h : a3.length ≤ 1048576) (R : Nat → Int → Int → Int → List Int → Prop) :
    Ev (fun n => laws_toBar.c n a0 a1 a2 a3 (R n)) ↔ Ev (fun n => R n a0 a1 a2 a3) := by
  refine Ev.suc.trans ?_
  simp (disch := omega) only [laws_toBar.c, laws_toBar.w, laws_toBits_ev, Ev.s4 R]

theorem laws_toBarS_lp {l : List tBar} (hl : l.length ≤ 1048576) : ∀ (ys : List tBar) (x : Int) (o : List tBar), l.drop x.toNat = ys → 0 ≤ x → o.length = l.length → (∀ y ∈ ys, y.2.2.2.length ≤ 1048576) → ∀ (Kx : Nat → List tBar → Prop),
    (Ev (fun n => laws_toBarS.l3 n l x o (Kx n)) ↔ Ev (fun n => Kx n (o.take x.toNat ++ ys)))
  | [], x, o, h, h0, ho, hy, Kx => by
    have := drop_nil h h0
    refine Ev.suc.trans ?_
    simp (disch := omega) only [laws_toBarS.l3, laws_toBarS.l3.b, if_neg, decide_eq_true_eq, Ev.s1 Kx]
    rw [List.take_of_length_le (by omega), List.append_nil]
  | y :: ys, x, o, h, h0, ho, hy, Kx => by
    obtain ⟨e1, e2, e3⟩ := drop_cons h h0
    have hy0 := hy y List.mem_cons_self
    refine Ev.suc.trans ?_
    simp (disch := omega) only [laws_toBarS.l3, laws_toBarS.l3.b, if_pos, decide_eq_true_eq, Ev.s1 Kx, grd_dec2, e2, wrap64, laws_toBar_ev]
    rw [laws_toBarS_lp hl ys (x + 1) _ e3 (by omega) (by simpa using ho) (fun y hy' => hy y (List.mem_cons_of_mem _ hy')), Ev.s1 Kx, take_set (by omega) (by omega), List.append_assoc]
    rfl

theorem laws_toBarS_ev {l : List tBar} (h : (l.length + sBarS l) ≤ 1048576) (R : Nat → List tBar → Prop) :
    Ev (fun n => laws_toBarS.c n l (R n)) ↔ Ev (fun n => R n l) := by
  refine Ev.suc.trans ?_
  simp (disch := omega) only [laws_toBarS.c, laws_toBarS.w, grd_dec2, decide_true, Bool.and_true]
  rw [laws_toBarS_lp (by omega) l 0 _ rfl (by omega) (by simp) (fun y hy => by have := sBarS_mem hy; omega), Ev.s1 R]
  simp

theorem laws_toSplit_ev {a0 : Int} {a1 : Int} {a2 : List (Int × Int × Int × List (Int))} (h : (a2.length + sBarS a2) ≤ 1048576) (R : Nat → Int → Int → List (Int × Int × Int × List (Int)) → Prop) :
    Ev (fun n => laws_toSplit.c n a0 a1 a2 (R n)) ↔ Ev (fun n => R n a0 a1 a2) := by
  refine Ev.suc.trans ?_
  simp (disch := omega) only [laws_toSplit.c, laws_toSplit.w, laws_toBarS_ev, Ev.s3 R]

theorem laws_toSplitS_lp {l : List tSplit} (hl : l.length ≤ 1048576) : ∀ (ys : List tSplit) (x : Int) (o : List tSplit), l.drop x.toNat = ys → 0 ≤ x → o.length = l.length → (∀ y ∈ ys, (y.2.2.length + sBarS y.2.2) ≤ 1048576) → ∀ (Kx : Nat → List tSplit → Prop),
    (Ev (fun n => laws_toSplitS.l3 n l x o (Kx n)) ↔ Ev (fun n => Kx n (o.take x.toNat ++ ys)))
  | [], x, o, h, h0, ho, hy, Kx => by
    have := drop_nil h h0
    refine Ev.suc.trans ?_
    simp (disch := omega) only [laws_toSplitS.l3, laws_toSplitS.l3.b, if_neg, decide_eq_true_eq, Ev.s1 Kx]
    rw [List.take_of_length_le (by omega), List.append_nil]
  | y :: ys, x, o, h, h0, ho, hy, Kx => by
    obtain ⟨e1, e2, e3⟩ := drop_cons h h0
    have hy0 := hy y List.mem_cons_self
    refine Ev.suc.trans ?_
    simp (disch := omega) only [laws_toSplitS.l3, laws_toSplitS.l3.b, if_pos, decide_eq_true_eq, Ev.s1 Kx, grd_dec2, e2, wrap64, laws_toSplit_ev]
    rw [laws_toSplitS_lp hl ys (x + 1) _ e3 (by omega) (by simpa using ho) (fun y hy' => hy y (List.mem_cons_of_mem _ hy')), Ev.s1 Kx, take_set (by omega) (by omega), List.append_assoc]
    rfl

theorem laws_toSplitS_ev {l : List tSplit} (h : (l.length + sSplitS l) ≤ 1048576) (R : Nat → List tSplit → Prop) :
    Ev (fun n => laws_toSplitS.c n l (R n)) ↔ Ev (fun n => R n l) := by
  refine Ev.suc.trans ?_
  simp (disch := omega) only [laws_toSplitS.c, laws_toSplitS.w, grd_dec2, decide_true, Bool.and_true]
  rw [laws_toSplitS_lp (by omega) l 0 _ rfl (by omega) (by simp) (fun y hy => by have := sSplitS_mem hy; omega), Ev.s1 R]
  simp

theorem laws_eqUint64S_lp {l l' : List Int} (hl : l.length ≤ 1099511627776) (hll : l.length = l'.length) : ∀ (ys ys' : List Int) (x : Int), l.drop x.toNat = ys → l'.drop x.toNat = ys' → 0 ≤ x → ∀ (Kx : Nat → Prop) (Kr : Nat → Bool → Prop),
    (Ev (fun n => laws_eqUint64S.l4 n l l' x (Kx n) (Kr n)) ↔ if ys = ys' then Ev Kx else Ev (fun n => Kr n false))
  | [], [], x, h, h', h0, Kx, Kr => by
    have := drop_nil h h0
    refine Ev.suc.trans ?_
    simp (disch := omega) only [laws_eqUint64S.l4, laws_eqUint64S.l4.b, if_neg, decide_eq_true_eq, Ev.s0 Kx, if_true]
  | [], y' :: ys', x, h, h', h0, Kx, Kr => by
    have := drop_nil h h0; have := (drop_cons h' h0).1; omega
  | y :: ys, [], x, h, h', h0, Kx, Kr => by
    have := drop_nil h' h0; have := (drop_cons h h0).1; omega
  | y :: ys, y' :: ys', x, h, h', h0, Kx, Kr => by
    obtain ⟨e1, e2, e3⟩ := drop_cons h h0
    obtain ⟨_, f2, f3⟩ := drop_cons h' h0
    refine Ev.suc.trans ?_
    simp (disch := first | assumption | exact hy0.1 | exact hy0.2 | exact hy0.2.1 | exact hy0.2.2 | exact hy0.2.2.1 | exact hy0.2.2.2 | omega) only [laws_eqUint64S.l4, laws_eqUint64S.l4.b, if_pos, decide_eq_true_eq, Ev.s0 Kx, Ev.s1 Kr, grd_dec2, e2, f2, wrap64, Ev.iteI, Bool.not_eq_true', decide_eq_false_iff_not]
    rw [laws_eqUint64S_lp hl hll ys ys' (x + 1) e3 f3 (by omega), Ev.s0 Kx, Ev.s1 Kr]
    simp only [List.cons.injEq, Prod.ext_iff]
    (repeat' split) <;> first | rfl | (exfalso; simp_all; done)

theorem laws_eqUint64S_ev {l l' : List Int} (hl : l.length ≤ 1099511627776) (R : Nat → Bool → Prop) :
    Ev (fun n => laws_eqUint64S.c n l l' (R n)) ↔ Ev (fun n => R n (decide (l = l'))) := by
  refine Ev.suc.trans ?_
  simp (disch := omega) only [laws_eqUint64S.c, laws_eqUint64S.w, Ev.iteI, Bool.not_eq_true', decide_eq_false_iff_not, Ev.s1 R]
  split
  · rw [decide_eq_false]; intro e; subst e; omega
  · rw [laws_eqUint64S_lp hl (by omega) l l' 0 rfl rfl (by omega), Ev.s1 R, Ev.s1 R]
    split
    · rw [decide_eq_true ‹_›]
    · rw [decide_eq_false ‹_›]

theorem laws_eqBits_ev {a0 b0 : Int} {a1 b1 : List Int} (h0 : a1.length ≤ 1099511627776) (R : Nat → Bool → Prop) :
    Ev (fun n => laws_eqBits.c n a0 a1 b0 b1 (R n)) ↔ Ev (fun n => R n (decide (a0 = b0 ∧ a1 = b1))) := by
  refine Ev.suc.trans ?_
  simp (disch := first | assumption | omega) only [laws_eqBits.c, laws_eqBits.w, laws_eqUint64S_ev, Ev.iteI, Bool.not_eq_true', decide_eq_false_iff_not, beq_eq_false_iff_ne, ne_eq, Ev.s1 R]
  (repeat' split) <;> first | (rw [decide_eq_false]; simp_all; done) | (rw [decide_eq_true]; simp_all; done)

theorem laws_eqBar_ev {a0 b0 : Int} {a1 b1 : Int} {a2 b2 : Int} {a3 b3 : List Int} (h0 : a3.length ≤ 1099511627776) (R : Nat → Bool → Prop) :
    Ev (fun n => laws_eqBar.c n a0 a1 a2 a3 b0 b1 b2 b3 (R n)) ↔ Ev (fun n => R n (decide (a0 = b0 ∧ a1 = b1 ∧ a2 = b2 ∧ a3 = b3))) := by
  refine Ev.suc.trans ?_
  simp (disch := first | assumption | omega) only [laws_eqBar.c, laws_eqBar.w, laws_eqBits_ev, Ev.iteI, Bool.not_eq_true', decide_eq_false_iff_not, beq_eq_false_iff_ne, ne_eq, Ev.s1 R]
  (repeat' split) <;> first | (rw [decide_eq_false]; simp_all; done) | (rw [decide_eq_true]; simp_all; done)

theorem laws_eqBarS_lp {l l' : List tBar} (hl : l.length ≤ 1099511627776) (hll : l.length = l'.length) : ∀ (ys ys' : List tBar) (x : Int), l.drop x.toNat = ys → l'.drop x.toNat = ys' → 0 ≤ x → (∀ y ∈ ys, y.2.2.2.length ≤ 1099511627776) → ∀ (Kx : Nat → Prop) (Kr : Nat → Bool → Prop),
    (Ev (fun n => laws_eqBarS.l4 n l l' x (Kx n) (Kr n)) ↔ if ys = ys' then Ev Kx else Ev (fun n => Kr n false))
  | [], [], x, h, h', h0, hy, Kx, Kr => by
    have := drop_nil h h0
    refine Ev.suc.trans ?_
    simp (disch := omega) only [laws_eqBarS.l4, laws_eqBarS.l4.b, if_neg, decide_eq_true_eq, Ev.s0 Kx, if_true]
  | [], y' :: ys', x, h, h', h0, hy, Kx, Kr => by
    have := drop_nil h h0; have := (drop_cons h' h0).1; omega
  | y :: ys, [], x, h, h', h0, hy, Kx, Kr => by
    have := drop_nil h' h0; have := (drop_cons h h0).1; omega
  | y :: ys, y' :: ys', x, h, h', h0, hy, Kx, Kr => by
    obtain ⟨e1, e2, e3⟩ := drop_cons h h0
    obtain ⟨_, f2, f3⟩ := drop_cons h' h0
    have hy0 := hy y List.mem_cons_self
    refine Ev.suc.trans ?_
    simp (disch := first | assumption | exact hy0.1 | exact hy0.2 | exact hy0.2.1 | exact hy0.2.2 | exact hy0.2.2.1 | exact hy0.2.2.2 | omega) only [laws_eqBarS.l4, laws_eqBarS.l4.b, if_pos, decide_eq_true_eq, Ev.s0 Kx, Ev.s1 Kr, grd_dec2, e2, f2, wrap64, laws_eqBar_ev, Ev.iteI, Bool.not_eq_true', decide_eq_false_iff_not]
    rw [laws_eqBarS_lp hl hll ys ys' (x + 1) e3 f3 (by omega) (fun y hy' => hy y (List.mem_cons_of_mem _ hy')), Ev.s0 Kx, Ev.s1 Kr]
    simp only [List.cons.injEq, Prod.ext_iff]
    (repeat' split) <;> first | rfl | (exfalso; simp_all; done)

theorem laws_eqBarS_ev {l l' : List tBar} (hl : l.length ≤ 1099511627776) (hy : ∀ y ∈ l, y.2.2.2.length ≤ 1099511627776) (R : Nat → Bool → Prop) :
    Ev (fun n => laws_eqBarS.c n l l' (R n)) ↔ Ev (fun n => R n (decide (l = l'))) := by
  refine Ev.suc.trans ?_
  simp (disch := omega) only [laws_eqBarS.c, laws_eqBarS.w, Ev.iteI, Bool.not_eq_true', decide_eq_false_iff_not, Ev.s1 R]
  split
  · rw [decide_eq_false]; intro e; subst e; omega
  · rw [laws_eqBarS_lp hl (by omega) l l' 0 rfl rfl (by omega) hy, Ev.s1 R, Ev.s1 R]
    split
    · rw [decide_eq_true ‹_›]
    · rw [decide_eq_false ‹_›]

theorem eqBarS_of {l : List tBar} (h : (l.length + sBarS l) ≤ 1099511627776) : ∀ y : tBar, y ∈ l → y.2.2.2.length ≤ 1099511627776 := by
  intro y hy
  have := sBarS_mem hy
  exact (by omega)

theorem laws_eqSplit_ev {a0 b0 : Int} {a1 b1 : Int} {a2 b2 : List (Int × Int × Int × List (Int))} (h0 : a2.length ≤ 1099511627776) (h1 : (∀ y : tBar, y ∈ a2 → y.2.2.2.length ≤ 1099511627776)) (R : Nat → Bool → Prop) :
    Ev (fun n => laws_eqSplit.c n a0 a1 a2 b0 b1 b2 (R n)) ↔ Ev (fun n => R n (decide (a0 = b0 ∧ a1 = b1 ∧ a2 = b2))) := by
  refine Ev.suc.trans ?_
  simp (disch := first | assumption | omega) only [laws_eqSplit.c, laws_eqSplit.w, laws_eqBarS_ev, Ev.iteI, Bool.not_eq_true', decide_eq_false_iff_not, beq_eq_false_iff_ne, ne_eq, Ev.s1 R]
  (repeat' split) <;> first | (rw [decide_eq_false]; simp_all; done) | (rw [decide_eq_true]; simp_all; done)

theorem laws_eqSplitS_lp {l l' : List tSplit} (hl : l.length ≤ 1099511627776) (hll : l.length = l'.length) : ∀ (ys ys' : List tSplit) (x : Int), l.drop x.toNat = ys → l'.drop x.toNat = ys' → 0 ≤ x → (∀ y ∈ ys, y.2.2.length ≤ 1099511627776 ∧ (∀ z : tBar, z ∈ y.2.2 → z.2.2.2.length ≤ 1099511627776)) → ∀ (Kx : Nat → Prop) (Kr : Nat → Bool → Prop),
    (Ev (fun n => laws_eqSplitS.l4 n l l' x (Kx n) (Kr n)) ↔ if ys = ys' then Ev Kx else Ev (fun n => Kr n false))
  | [], [], x, h, h', h0, hy, Kx, Kr => by
    have := drop_nil h h0
    refine Ev.suc.trans ?_
    simp (disch := omega) only [laws_eqSplitS.l4, laws_eqSplitS.l4.b, if_neg, decide_eq_true_eq, Ev.s0 Kx, if_true]
  | [], y' :: ys', x, h, h', h0, hy, Kx, Kr => by
    have := drop_nil h h0; have := (drop_cons h' h0).1; omega
  | y :: ys, [], x, h, h', h0, hy, Kx, Kr => by
    have := drop_nil h' h0; have := (drop_cons h h0).1; omega
  | y :: ys, y' :: ys', x, h, h', h0, hy, Kx, Kr => by
    obtain ⟨e1, e2, e3⟩ := drop_cons h h0
    obtain ⟨_, f2, f3⟩ := drop_cons h' h0
    have hy0 := hy y List.mem_cons_self
    refine Ev.suc.trans ?_
    simp (disch := first | assumption | exact hy0.1 | exact hy0.2 | exact hy0.2.1 | exact hy0.2.2 | exact hy0.2.2.1 | exact hy0.2.2.2 | omega) only [laws_eqSplitS.l4, laws_eqSplitS.l4.b, if_pos, decide_eq_true_eq, Ev.s0 Kx, Ev.s1 Kr, grd_dec2, e2, f2, wrap64, laws_eqSplit_ev, Ev.iteI, Bool.not_eq_true', decide_eq_false_iff_not]
    rw [laws_eqSplitS_lp hl hll ys ys' (x + 1) e3 f3 (by omega) (fun y hy' => hy y (List.mem_cons_of_mem _ hy')), Ev.s0 Kx, Ev.s1 Kr]
    simp only [List.cons.injEq, Prod.ext_iff]
    (repeat' split) <;> first | rfl | (exfalso; simp_all; done)

theorem laws_eqSplitS_ev {l l' : List tSplit} (hl : l.length ≤ 1099511627776) (hy : ∀ y ∈ l, y.2.2.length ≤ 1099511627776 ∧ (∀ z : tBar, z ∈ y.2.2 → z.2.2.2.length ≤ 1099511627776)) (R : Nat → Bool → Prop) :
    Ev (fun n => laws_eqSplitS.c n l l' (R n)) ↔ Ev (fun n => R n (decide (l = l'))) := by
  refine Ev.suc.trans ?_
  simp (disch := omega) only [laws_eqSplitS.c, laws_eqSplitS.w, Ev.iteI, Bool.not_eq_true', decide_eq_false_iff_not, Ev.s1 R]
  split
  · rw [decide_eq_false]; intro e; subst e; omega
  · rw [laws_eqSplitS_lp hl (by omega) l l' 0 rfl rfl (by omega) hy, Ev.s1 R, Ev.s1 R]
    split
    · rw [decide_eq_true ‹_›]
    · rw [decide_eq_false ‹_›]

theorem eqSplitS_of {l : List tSplit} (h : (l.length + sSplitS l) ≤ 1099511627776) : ∀ y : tSplit, y ∈ l → y.2.2.length ≤ 1099511627776 ∧ (∀ z : tBar, z ∈ y.2.2 → z.2.2.2.length ≤ 1099511627776) := by
  intro y hy
  have := sSplitS_mem hy
  exact ⟨(by omega), (fun z hz => by have := sBarS_mem hz; exact (by omega))⟩

def mUint64S : List Int → Int → List Int
  | [], _ => []
  | y :: r, k => (k) :: mUint64S r (k + 1)

theorem laws_markUint64S_lp : ∀ (ys l : List Int) (k x : Int), l.drop x.toNat = ys → 0 ≤ x → l.length ≤ 1099511627776 → 0 < k → k + (ys.length : Int) ≤ 4611686018427387904 → ∀ (Kx : Nat → Int → List Int → Prop),
    (Ev (fun n => laws_markUint64S.l2 n k x l (Kx n)) ↔ Ev (fun n => Kx n (k + (ys.length : Int)) (l.take x.toNat ++ mUint64S ys k)))
  | [], l, k, x, h, h0, hl, hk, hb, Kx => by
    have := drop_nil h h0
    refine Ev.suc.trans ?_
    simp (disch := omega) only [laws_markUint64S.l2, laws_markUint64S.l2.b, if_neg, decide_eq_true_eq, Ev.s2 Kx]
    rw [List.take_of_length_le (by omega), mUint64S, List.append_nil]
    refine ev_arg2 ?_; simp
  | y :: ys, l, k, x, h, h0, hl, hk, hb, Kx => by
    obtain ⟨e1, e2, e3⟩ := drop_cons h h0
    simp only [List.length_cons] at hb
    refine Ev.suc.trans ?_
    simp (disch := first | assumption | exact hy0.1 | exact hy0.2 | exact hy0.2.1 | exact hy0.2.2 | exact hy0.2.2.1 | exact hy0.2.2.2 | omega) only [laws_markUint64S.l2, laws_markUint64S.l2.b, if_pos, decide_eq_true_eq, Ev.s2 Kx, grd_dec2, wrap64, wrapU, rd_set, List.length_set, List.set_set, e2]
    rw [laws_markUint64S_lp ys _ _ (x + 1) (drop_set e3 (by omega)) (by omega) (by simpa using hl) (by omega) (by omega), Ev.s2 Kx, take_set (by omega) (by omega), List.append_assoc, mUint64S]
    simp only [List.length_cons, List.singleton_append]
    exact ev_arg3 (by omega) (by congr 2 <;> first | rfl | omega | (congr 1; omega) | skip)

theorem laws_markUint64S_ev {l : List Int} {k : Int} (hl : l.length ≤ 1099511627776) (hk : 0 < k) (hb : k + (l.length : Int) ≤ 4611686018427387904) (R : Nat → Int → List Int → Prop) :
    Ev (fun n => laws_markUint64S.c n l k (R n)) ↔ Ev (fun n => R n (k + (l.length : Int)) (mUint64S l k)) := by
  refine Ev.suc.trans ?_
  simp only [laws_markUint64S.c, laws_markUint64S.w]
  rw [laws_markUint64S_lp l l k 0 rfl (by omega) hl hk hb, Ev.s2 R]
  rfl

theorem mUint64S_len : ∀ {l : List Int} {k : Int}, (mUint64S l k).length = l.length
  | [], _ => rfl
  | y :: l, k => by simp [mUint64S, mUint64S_len]

def mBarS : List tBar → Int → List tBar
  | [], _ => []
  | y :: r, k => (k, k + 1, k + 1 + 1, mUint64S y.2.2.2 (k + 1 + 1 + 1)) :: mBarS r (k + 1 + 1 + 1 + ((y.2.2.2.length : Nat) : Int))

def cBarS : List tBar → Nat
  | [] => 0
  | y :: r => (3 + y.2.2.2.length) + cBarS r

theorem laws_markBarS_lp : ∀ (ys l : List tBar) (k x : Int), l.drop x.toNat = ys → 0 ≤ x → l.length ≤ 1099511627776 → 0 < k → k + (cBarS ys : Int) ≤ 4611686018427387904 → (∀ y ∈ ys, y.2.2.2.length ≤ 1099511627776) → ∀ (Kx : Nat → Int → List tBar → Prop),
    (Ev (fun n => laws_markBarS.l2 n k x l (Kx n)) ↔ Ev (fun n => Kx n (k + (cBarS ys : Int)) (l.take x.toNat ++ mBarS ys k)))
  | [], l, k, x, h, h0, hl, hk, hb, hy, Kx => by
    have := drop_nil h h0
    refine Ev.suc.trans ?_
    simp (disch := omega) only [laws_markBarS.l2, laws_markBarS.l2.b, if_neg, decide_eq_true_eq, Ev.s2 Kx]
    rw [List.take_of_length_le (by omega), mBarS, List.append_nil]
    refine ev_arg2 ?_; simp [cBarS]
  | y :: ys, l, k, x, h, h0, hl, hk, hb, hy, Kx => by
    obtain ⟨e1, e2, e3⟩ := drop_cons h h0
    have hy0 := hy y List.mem_cons_self
    simp only [List.length_cons, cBarS] at hb
    refine Ev.suc.trans ?_
    simp (disch := first | assumption | exact hy0.1 | exact hy0.2 | exact hy0.2.1 | exact hy0.2.2 | exact hy0.2.2.1 | exact hy0.2.2.2 | omega) only [laws_markBarS.l2, laws_markBarS.l2.b, if_pos, decide_eq_true_eq, Ev.s2 Kx, grd_dec2, wrap64, wrapU, rd_set, List.length_set, List.set_set, e2, laws_markUint64S_ev]
    rw [laws_markBarS_lp ys _ _ (x + 1) (drop_set e3 (by omega)) (by omega) (by simpa using hl) (by omega) (by omega) (fun y hy' => hy y (List.mem_cons_of_mem _ hy')), Ev.s2 Kx, take_set (by omega) (by omega), List.append_assoc, mBarS]
    simp only [List.length_cons, cBarS, List.singleton_append]
    exact ev_arg3 (by omega) (by congr 2 <;> first | rfl | omega | (congr 1; omega) | skip)

theorem laws_markBarS_ev {l : List tBar} {k : Int} (hl : l.length ≤ 1099511627776) (hk : 0 < k) (hb : k + (cBarS l : Int) ≤ 4611686018427387904) (hy : ∀ y ∈ l, y.2.2.2.length ≤ 1099511627776) (R : Nat → Int → List tBar → Prop) :
    Ev (fun n => laws_markBarS.c n l k (R n)) ↔ Ev (fun n => R n (k + (cBarS l : Int)) (mBarS l k)) := by
  refine Ev.suc.trans ?_
  simp only [laws_markBarS.c, laws_markBarS.w]
  rw [laws_markBarS_lp l l k 0 rfl (by omega) hl hk hb hy, Ev.s2 R]
  rfl

theorem markBarS_of {l : List tBar} (h : (l.length + sBarS l) ≤ 1099511627776) : ∀ y : tBar, y ∈ l → y.2.2.2.length ≤ 1099511627776 := by
  intro y hy
  have := sBarS_mem hy
  exact (by omega)

theorem cBarS_le : ∀ {l : List tBar}, cBarS l ≤ 8 * (l.length + sBarS l)
  | [] => by simp [cBarS]
  | y :: r => by
    have := cBarS_le (l := r)
    simp only [cBarS, sBarS, List.length_cons]; omega

theorem mBarS_len : ∀ {l : List tBar} {k : Int}, (mBarS l k).length = l.length
  | [], _ => rfl
  | y :: l, k => by simp [mBarS, mBarS_len]

def mSplitS : List tSplit → Int → List tSplit
  | [], _ => []
  | y :: r, k => (k, k + 1, mBarS y.2.2 (k + 1 + 1)) :: mSplitS r (k + 1 + 1 + ((cBarS y.2.2 : Nat) : Int))

def cSplitS : List tSplit → Nat
  | [] => 0
  | y :: r => (2 + (cBarS y.2.2)) + cSplitS r

theorem laws_markSplitS_lp : ∀ (ys l : List tSplit) (k x : Int), l.drop x.toNat = ys → 0 ≤ x → l.length ≤ 1099511627776 → 0 < k → k + (cSplitS ys : Int) ≤ 4611686018427387904 → (∀ y ∈ ys, y.2.2.length ≤ 1099511627776 ∧ (∀ z : tBar, z ∈ y.2.2 → z.2.2.2.length ≤ 1099511627776)) → ∀ (Kx : Nat → Int → List tSplit → Prop),
    (Ev (fun n => laws_markSplitS.l2 n k x l (Kx n)) ↔ Ev (fun n => Kx n (k + (cSplitS ys : Int)) (l.take x.toNat ++ mSplitS ys k)))
  | [], l, k, x, h, h0, hl, hk, hb, hy, Kx => by
    have := drop_nil h h0
    refine Ev.suc.trans ?_
    simp (disch := omega) only [laws_markSplitS.l2, laws_markSplitS.l2.b, if_neg, decide_eq_true_eq, Ev.s2 Kx]
    rw [List.take_of_length_le (by omega), mSplitS, List.append_nil]
    refine ev_arg2 ?_; simp [cSplitS]
  | y :: ys, l, k, x, h, h0, hl, hk, hb, hy, Kx => by
    obtain ⟨e1, e2, e3⟩ := drop_cons h h0
    have hy0 := hy y List.mem_cons_self
    simp only [List.length_cons, cSplitS] at hb
    refine Ev.suc.trans ?_
    simp (disch := first | assumption | exact hy0.1 | exact hy0.2 | exact hy0.2.1 | exact hy0.2.2 | exact hy0.2.2.1 | exact hy0.2.2.2 | omega) only [laws_markSplitS.l2, laws_markSplitS.l2.b, if_pos, decide_eq_true_eq, Ev.s2 Kx, grd_dec2, wrap64, wrapU, rd_set, List.length_set, List.set_set, e2, laws_markBarS_ev]
    rw [laws_markSplitS_lp ys _ _ (x + 1) (drop_set e3 (by omega)) (by omega) (by simpa using hl) (by omega) (by omega) (fun y hy' => hy y (List.mem_cons_of_mem _ hy')), Ev.s2 Kx, take_set (by omega) (by omega), List.append_assoc, mSplitS]
    simp only [List.length_cons, cSplitS, List.singleton_append]
    exact ev_arg3 (by omega) (by congr 2 <;> first | rfl | omega | (congr 1; omega) | skip)

theorem laws_markSplitS_ev {l : List tSplit} {k : Int} (hl : l.length ≤ 1099511627776) (hk : 0 < k) (hb : k + (cSplitS l : Int) ≤ 4611686018427387904) (hy : ∀ y ∈ l, y.2.2.length ≤ 1099511627776 ∧ (∀ z : tBar, z ∈ y.2.2 → z.2.2.2.length ≤ 1099511627776)) (R : Nat → Int → List tSplit → Prop) :
    Ev (fun n => laws_markSplitS.c n l k (R n)) ↔ Ev (fun n => R n (k + (cSplitS l : Int)) (mSplitS l k)) := by
  refine Ev.suc.trans ?_
  simp only [laws_markSplitS.c, laws_markSplitS.w]
  rw [laws_markSplitS_lp l l k 0 rfl (by omega) hl hk hb hy, Ev.s2 R]
  rfl

theorem markSplitS_of {l : List tSplit} (h : (l.length + sSplitS l) ≤ 1099511627776) : ∀ y : tSplit, y ∈ l → y.2.2.length ≤ 1099511627776 ∧ (∀ z : tBar, z ∈ y.2.2 → z.2.2.2.length ≤ 1099511627776) := by
  intro y hy
  have := sSplitS_mem hy
  exact ⟨(by omega), (fun z hz => by have := sBarS_mem hz; exact (by omega))⟩

theorem cSplitS_le : ∀ {l : List tSplit}, cSplitS l ≤ 8 * (l.length + sSplitS l)
  | [] => by simp [cSplitS]
  | y :: r => by
    have := cSplitS_le (l := r)
    have := cBarS_le (l := y.2.2)
    simp only [cSplitS, sSplitS, List.length_cons]; omega

theorem mSplitS_len : ∀ {l : List tSplit} {k : Int}, (mSplitS l k).length = l.length
  | [], _ => rfl
  | y :: l, k => by simp [mSplitS, mSplitS_len]

theorem laws_markUint64S_1_lp : ∀ (ys l : List Int) (k x : Int), l.drop x.toNat = ys → 0 ≤ x → l.length ≤ 1099511627776 → 0 < k → k + (ys.length : Int) ≤ 4611686018427387904 → ∀ (Kx : Nat → Int → List Int → Prop),
    (Ev (fun n => laws_markUint64S_1.l2 n k x l (Kx n)) ↔ Ev (fun n => Kx n (k + (ys.length : Int)) (l.take x.toNat ++ mUint64S ys k)))
  | [], l, k, x, h, h0, hl, hk, hb, Kx => by
    have := drop_nil h h0
    refine Ev.suc.trans ?_
    simp (disch := omega) only [laws_markUint64S_1.l2, laws_markUint64S_1.l2.b, if_neg, decide_eq_true_eq, Ev.s2 Kx]
    rw [List.take_of_length_le (by omega), mUint64S, List.append_nil]
    refine ev_arg2 ?_; simp
  | y :: ys, l, k, x, h, h0, hl, hk, hb, Kx => by
    obtain ⟨e1, e2, e3⟩ := drop_cons h h0
    simp only [List.length_cons] at hb
    refine Ev.suc.trans ?_
    simp (disch := first | assumption | exact hy0.1 | exact hy0.2 | exact hy0.2.1 | exact hy0.2.2 | exact hy0.2.2.1 | exact hy0.2.2.2 | omega) only [laws_markUint64S_1.l2, laws_markUint64S_1.l2.b, if_pos, decide_eq_true_eq, Ev.s2 Kx, grd_dec2, wrap64, wrapU, rd_set, List.length_set, List.set_set, e2]
    rw [laws_markUint64S_1_lp ys _ _ (x + 1) (drop_set e3 (by omega)) (by omega) (by simpa using hl) (by omega) (by omega), Ev.s2 Kx, take_set (by omega) (by omega), List.append_assoc, mUint64S]
    simp only [List.length_cons, List.singleton_append]
    exact ev_arg3 (by omega) (by congr 2 <;> first | rfl | omega | (congr 1; omega) | skip)

theorem laws_markUint64S_1_ev {l : List Int} {k : Int} (hl : l.length ≤ 1099511627776) (hk : 0 < k) (hb : k + (l.length : Int) ≤ 4611686018427387904) (R : Nat → Int → List Int → Prop) :
    Ev (fun n => laws_markUint64S_1.c n l k (R n)) ↔ Ev (fun n => R n (k + (l.length : Int)) (mUint64S l k)) := by
  refine Ev.suc.trans ?_
  simp only [laws_markUint64S_1.c, laws_markUint64S_1.w]
  rw [laws_markUint64S_1_lp l l k 0 rfl (by omega) hl hk hb, Ev.s2 R]
  rfl

theorem laws_markBarS_1_lp : ∀ (ys l : List tBar) (k x : Int), l.drop x.toNat = ys → 0 ≤ x → l.length ≤ 1099511627776 → 0 < k → k + (cBarS ys : Int) ≤ 4611686018427387904 → (∀ y ∈ ys, y.2.2.2.length ≤ 1099511627776) → ∀ (Kx : Nat → Int → List tBar → Prop),
    (Ev (fun n => laws_markBarS_1.l2 n k x l (Kx n)) ↔ Ev (fun n => Kx n (k + (cBarS ys : Int)) (l.take x.toNat ++ mBarS ys k)))
  | [], l, k, x, h, h0, hl, hk, hb, hy, Kx => by
    have := drop_nil h h0
    refine Ev.suc.trans ?_
    simp (disch := omega) only [laws_markBarS_1.l2, laws_markBarS_1.l2.b, if_neg, decide_eq_true_eq, Ev.s2 Kx]
    rw [List.take_of_length_le (by omega), mBarS, List.append_nil]
    refine ev_arg2 ?_; simp [cBarS]
  | y :: ys, l, k, x, h, h0, hl, hk, hb, hy, Kx => by
    obtain ⟨e1, e2, e3⟩ := drop_cons h h0
    have hy0 := hy y List.mem_cons_self
    simp only [List.length_cons, cBarS] at hb
    refine Ev.suc.trans ?_
    simp (disch := first | assumption | exact hy0.1 | exact hy0.2 | exact hy0.2.1 | exact hy0.2.2 | exact hy0.2.2.1 | exact hy0.2.2.2 | omega) only [laws_markBarS_1.l2, laws_markBarS_1.l2.b, if_pos, decide_eq_true_eq, Ev.s2 Kx, grd_dec2, wrap64, wrapU, rd_set, List.length_set, List.set_set, e2, laws_markUint64S_ev, laws_markUint64S_1_ev]
    rw [laws_markBarS_1_lp ys _ _ (x + 1) (drop_set e3 (by omega)) (by omega) (by simpa using hl) (by omega) (by omega) (fun y hy' => hy y (List.mem_cons_of_mem _ hy')), Ev.s2 Kx, take_set (by omega) (by omega), List.append_assoc, mBarS]
    simp only [List.length_cons, cBarS, List.singleton_append]
    exact ev_arg3 (by omega) (by congr 2 <;> first | rfl | omega | (congr 1; omega) | skip)

theorem laws_markBarS_1_ev {l : List tBar} {k : Int} (hl : l.length ≤ 1099511627776) (hk : 0 < k) (hb : k + (cBarS l : Int) ≤ 4611686018427387904) (hy : ∀ y ∈ l, y.2.2.2.length ≤ 1099511627776) (R : Nat → Int → List tBar → Prop) :
    Ev (fun n => laws_markBarS_1.c n l k (R n)) ↔ Ev (fun n => R n (k + (cBarS l : Int)) (mBarS l k)) := by
  refine Ev.suc.trans ?_
  simp only [laws_markBarS_1.c, laws_markBarS_1.w]
  rw [laws_markBarS_1_lp l l k 0 rfl (by omega) hl hk hb hy, Ev.s2 R]
  rfl

theorem laws_heldUint64S_lp {l : List Int} (hl : l.length ≤ 1099511627776) : ∀ (ys : List Int) (k x : Int), l.drop x.toNat = mUint64S ys k → 0 ≤ x → 0 < k → k + (ys.length : Int) ≤ 4611686018427387904 → ∀ (Kx Kr : Nat → Int → Prop),
    (Ev (fun n => laws_heldUint64S.l2 n l k x (Kx n) (Kr n)) ↔ Ev (fun n => Kx n (k + (ys.length : Int))))
  | [], k, x, h, h0, hk, hb, Kx, Kr => by
    have := drop_nil h h0
    refine Ev.suc.trans ?_
    simp (disch := omega) only [laws_heldUint64S.l2, laws_heldUint64S.l2.b, if_neg, decide_eq_true_eq, Ev.s1 Kx]
    refine ev_arg ?_; simp
  | y :: ys, k, x, h, h0, hk, hb, Kx, Kr => by
    obtain ⟨e1, e2, e3⟩ := drop_cons h h0
    simp only [List.length_cons] at hb
    refine Ev.suc.trans ?_
    simp (disch := first | assumption | exact hy0.1 | exact hy0.2 | exact hy0.2.1 | exact hy0.2.2 | exact hy0.2.2.1 | exact hy0.2.2.2 | omega) only [laws_heldUint64S.l2, laws_heldUint64S.l2.b, if_pos, if_neg, decide_eq_true_eq, Bool.not_eq_true', decide_eq_false_iff_not, not_true, if_false, Ev.s1 Kx, grd_dec2, wrap64, wrapU, e2, beq_self_eq_true, Bool.true_eq_false, Bool.not_true, Bool.false_eq_true, decide_true, decide_not, Ev.iteI]
    rw [laws_heldUint64S_lp hl ys _ (x + 1) (by first | exact e3 | (rw [e3]; congr 1 <;> omega)) (by omega) (by omega) (by omega), Ev.s1 Kx]
    refine ev_arg ?_; simp only [List.length_cons]; try omega

theorem laws_heldUint64S_ev {l : List Int} {k : Int} (hl : l.length ≤ 1099511627776) (hk : 0 < k) (hb : k + (l.length : Int) ≤ 4611686018427387904) (R : Nat → Int → Prop) :
    Ev (fun n => laws_heldUint64S.c n (mUint64S l k) k (R n)) ↔ Ev (fun n => R n (k + (l.length : Int))) := by
  refine Ev.suc.trans ?_
  simp only [laws_heldUint64S.c, laws_heldUint64S.w]
  rw [laws_heldUint64S_lp (by rw [mUint64S_len]; exact hl) l k 0 rfl (by omega) hk hb, Ev.s1 R]

theorem laws_heldBarS_lp {l : List tBar} (hl : l.length ≤ 1099511627776) : ∀ (ys : List tBar) (k x : Int), l.drop x.toNat = mBarS ys k → 0 ≤ x → 0 < k → k + (cBarS ys : Int) ≤ 4611686018427387904 → (∀ y ∈ ys, y.2.2.2.length ≤ 1099511627776) → ∀ (Kx Kr : Nat → Int → Prop),
    (Ev (fun n => laws_heldBarS.l2 n l k x (Kx n) (Kr n)) ↔ Ev (fun n => Kx n (k + (cBarS ys : Int))))
  | [], k, x, h, h0, hk, hb, hy, Kx, Kr => by
    have := drop_nil h h0
    refine Ev.suc.trans ?_
    simp (disch := omega) only [laws_heldBarS.l2, laws_heldBarS.l2.b, if_neg, decide_eq_true_eq, Ev.s1 Kx]
    refine ev_arg ?_; simp [cBarS]
  | y :: ys, k, x, h, h0, hk, hb, hy, Kx, Kr => by
    obtain ⟨e1, e2, e3⟩ := drop_cons h h0
    have hy0 := hy y List.mem_cons_self
    simp only [List.length_cons, cBarS] at hb
    refine Ev.suc.trans ?_
    simp (disch := first | assumption | exact hy0.1 | exact hy0.2 | exact hy0.2.1 | exact hy0.2.2 | exact hy0.2.2.1 | exact hy0.2.2.2 | omega) only [laws_heldBarS.l2, laws_heldBarS.l2.b, if_pos, if_neg, decide_eq_true_eq, Bool.not_eq_true', decide_eq_false_iff_not, not_true, if_false, Ev.s1 Kx, grd_dec2, wrap64, wrapU, e2, laws_heldUint64S_ev, beq_self_eq_true, Bool.true_eq_false, Bool.not_true, Bool.false_eq_true, decide_true, decide_not, Ev.iteI]
    rw [laws_heldBarS_lp hl ys _ (x + 1) (by first | exact e3 | (rw [e3]; congr 1 <;> omega)) (by omega) (by omega) (by omega) (fun y hy' => hy y (List.mem_cons_of_mem _ hy')), Ev.s1 Kx]
    refine ev_arg ?_; simp only [List.length_cons, cBarS]; try omega

theorem laws_heldBarS_ev {l : List tBar} {k : Int} (hl : l.length ≤ 1099511627776) (hk : 0 < k) (hb : k + (cBarS l : Int) ≤ 4611686018427387904) (hy : ∀ y ∈ l, y.2.2.2.length ≤ 1099511627776) (R : Nat → Int → Prop) :
    Ev (fun n => laws_heldBarS.c n (mBarS l k) k (R n)) ↔ Ev (fun n => R n (k + (cBarS l : Int))) := by
  refine Ev.suc.trans ?_
  simp only [laws_heldBarS.c, laws_heldBarS.w]
  rw [laws_heldBarS_lp (by rw [mBarS_len]; exact hl) l k 0 rfl (by omega) hk hb hy, Ev.s1 R]

end Go.Vsi
end

section
set_option linter.unusedVariables false
set_option linter.unusedSimpArgs false
set_option synthInstance.maxSize 4096
namespace Go.Vsi

theorem Ev.impI {p : Prop} {P : Nat → Prop} : Ev (fun n => p → P n) ↔ (p → Ev P) := by
  by_cases h : p
  · simp only [h, true_imp_iff]
  · simp only [h, false_imp_iff, iff_true]; exact ⟨0, fun _ _ => trivial⟩

theorem sEqual_lp {l l' : List Int} (hl : l.length ≤ 1099511627776) (hll : l.length = l'.length) : ∀ (ys ys' : List Int) (x : Int), l.drop x.toNat = ys → l'.drop x.toNat = ys' → 0 ≤ x → ∀ (Kx : Nat → Prop) (Kr : Nat → Bool → Prop),
    (Ev (fun n => slices_Equal_uint64.l4 n l l' l.length x (Kx n) (Kr n)) ↔ if ys = ys' then Ev Kx else Ev (fun n => Kr n false))
  | [], [], x, h, h', h0, Kx, Kr => by
    have := drop_nil h h0
    refine Ev.suc.trans ?_
    simp (disch := omega) only [slices_Equal_uint64.l4, slices_Equal_uint64.l4.b, if_neg, decide_eq_true_eq, Ev.s0 Kx, if_true]
  | [], y' :: ys', x, h, h', h0, Kx, Kr => by
    have := drop_nil h h0; have := (drop_cons h' h0).1; omega
  | y :: ys, [], x, h, h', h0, Kx, Kr => by
    have := drop_nil h' h0; have := (drop_cons h h0).1; omega
  | y :: ys, y' :: ys', x, h, h', h0, Kx, Kr => by
    obtain ⟨e1, e2, e3⟩ := drop_cons h h0
    obtain ⟨_, f2, f3⟩ := drop_cons h' h0
    refine Ev.suc.trans ?_
    simp (disch := omega) only [slices_Equal_uint64.l4, slices_Equal_uint64.l4.b, if_pos, decide_eq_true_eq, Ev.s0 Kx, Ev.s1 Kr, grd_dec2, e2, f2, wrap64, Ev.iteI, Bool.not_eq_true', decide_eq_false_iff_not]
    rw [sEqual_lp hl hll ys ys' (x + 1) e3 f3 (by omega), Ev.s0 Kx, Ev.s1 Kr]
    simp only [List.cons.injEq]
    (repeat' split) <;> first | rfl | (exfalso; simp_all; done)

theorem sEqual_ev {l l' : List Int} (hl : l.length ≤ 1099511627776) (R : Nat → Bool → Prop) :
    Ev (fun n => slices_Equal_uint64.c n l l' (R n)) ↔ Ev (fun n => R n (decide (l = l'))) := by
  refine Ev.suc.trans ?_
  simp (disch := omega) only [slices_Equal_uint64.c, slices_Equal_uint64.w, Ev.iteI, Bool.not_eq_true', decide_eq_false_iff_not, Ev.s1 R]
  split
  · rw [decide_eq_false]; intro e; subst e; omega
  · rw [sEqual_lp hl (by omega) l l' 0 rfl rfl (by omega), Ev.s1 R, Ev.s1 R]
    split
    · rw [decide_eq_true ‹_›]
    · rw [decide_eq_false ‹_›]

theorem same_ev {a b : Int} {l l' : List Int} (hl : l.length ≤ 1099511627776) (R : Nat → Bool → Prop) :
    Ev (fun n => impl_Bits_same.c n a l b l' (R n)) ↔ Ev (fun n => R n (decide (a = b ∧ l = l'))) := by
  refine Ev.suc.trans ?_
  simp (disch := omega) only [impl_Bits_same.c, impl_Bits_same.w, Ev.iteI, decide_eq_true_eq, sEqual_ev, Ev.s1 R]
  split
  · simp_all
  · rw [decide_eq_false]; simp_all

theorem sSame_lp {a b : Int} {l l' : List Int} (hl : l.length ≤ 1099511627776) (hll : l.length = l'.length) : ∀ (ys ys' : List Int) (x : Int), l.drop x.toNat = ys → l'.drop x.toNat = ys' → 0 ≤ x → ∀ (Kx : Nat → Prop) (Kr : Nat → Bool → Prop),
    (Ev (fun n => spec_l3SameBits.l4 n a l b l' x (Kx n) (Kr n)) ↔ if ys = ys' then Ev Kx else Ev (fun n => Kr n false))
  | [], [], x, h, h', h0, Kx, Kr => by
    have := drop_nil h h0
    refine Ev.suc.trans ?_
    simp (disch := omega) only [spec_l3SameBits.l4, spec_l3SameBits.l4.b, if_neg, decide_eq_true_eq, Ev.s0 Kx, if_true]
  | [], y' :: ys', x, h, h', h0, Kx, Kr => by
    have := drop_nil h h0; have := (drop_cons h' h0).1; omega
  | y :: ys, [], x, h, h', h0, Kx, Kr => by
    have := drop_nil h' h0; have := (drop_cons h h0).1; omega
  | y :: ys, y' :: ys', x, h, h', h0, Kx, Kr => by
    obtain ⟨e1, e2, e3⟩ := drop_cons h h0
    obtain ⟨_, f2, f3⟩ := drop_cons h' h0
    refine Ev.suc.trans ?_
    simp (disch := omega) only [spec_l3SameBits.l4, spec_l3SameBits.l4.b, if_pos, decide_eq_true_eq, Ev.s0 Kx, Ev.s1 Kr, grd_dec2, e2, f2, wrap64, Ev.iteI, Bool.not_eq_true', decide_eq_false_iff_not]
    rw [sSame_lp hl hll ys ys' (x + 1) e3 f3 (by omega), Ev.s0 Kx, Ev.s1 Kr]
    simp only [List.cons.injEq]
    (repeat' split) <;> first | rfl | (exfalso; simp_all; done)

theorem sSame_ev {a b : Int} {l l' : List Int} (hl : l.length ≤ 1099511627776) (R : Nat → Bool → Prop) :
    Ev (fun n => spec_l3SameBits.c n a l b l' (R n)) ↔ Ev (fun n => R n (decide (a = b ∧ l = l'))) := by
  refine Ev.suc.trans ?_
  simp (disch := omega) only [spec_l3SameBits.c, spec_l3SameBits.w, Ev.iteI, Bool.not_eq_true', Bool.not_eq_false', decide_eq_true_eq, decide_eq_false_iff_not, Ev.s1 R]
  split
  · split
    · rw [decide_eq_false]; rintro ⟨_, e⟩; subst e; omega
    · rw [sSame_lp hl (by omega) l l' 0 rfl rfl (by omega), Ev.s1 R, Ev.s1 R]
      split
      · rw [decide_eq_true ⟨‹_›, ‹_›⟩]
      · rw [decide_eq_false]; simp_all
  · rw [decide_eq_false]; simp_all

theorem clone_ev {l : List Int} (hl : l.length ≤ 1099511627776) (R : Nat → List Int → Prop) :
    Ev (fun n => slices_Clone_uint64.c n l (R n)) ↔ Ev (fun n => R n l) := by
  refine Ev.suc.trans ?_
  simp (disch := (simp only [List.length_nil]; omega)) only [slices_Clone_uint64.c, slices_Clone_uint64.w, Ev.andI, Ev.impI, grd_dec, List.nil_append, Ev.s1 R]
  constructor
  · exact fun h => h.2
  · refine fun h => ⟨fun e => ?_, h⟩
    rw [List.eq_nil_of_length_eq_zero e] at h; exact h

theorem cloneBits_ev {a : Int} {l : List Int} (hl : l.length ≤ 1099511627776) (R : Nat → Int → List Int → Prop) :
    Ev (fun n => impl_cloneBits.c n a l (R n)) ↔ Ev (fun n => R n a l) := by
  refine Ev.suc.trans ?_
  simp (disch := omega) only [impl_cloneBits.c, impl_cloneBits.w, Ev.andI, and_self, clone_ev, Ev.s2 R]

theorem copyBits_ev {a : Int} {l : List Int} (hl : l.length ≤ 1099511627776) (R : Nat → Int → List Int → Prop) :
    Ev (fun n => spec_l8CopyBits.c n a l (R n)) ↔ Ev (fun n => R n a l) := by
  refine Ev.suc.trans ?_
  simp (disch := (simp only [List.length_nil]; omega)) only [spec_l8CopyBits.c, spec_l8CopyBits.w, and_self, grd_dec, List.nil_append, Ev.s2 R]

/-! ### Bars -/

theorem sameBarS_ev {a b c d e f : Int} {l l' : List Int} (hl : l.length ≤ 1099511627776) (R : Nat → Bool → Prop) :
    Ev (fun n => spec_l9SameBar.c n a b c l d e f l' (R n)) ↔ Ev (fun n => R n (decide (((a, b, c, l) : tBar) = (d, e, f, l')))) := by
  refine Ev.suc.trans ?_
  simp (disch := omega) only [spec_l9SameBar.c, spec_l9SameBar.w, Ev.iteI, decide_eq_true_eq, sSame_ev, Ev.s1 R, Prod.mk.injEq]
  (repeat' split) <;> simp_all

theorem sameBar_ev {a b c d e f : Int} {l l' : List Int} (hl : l.length ≤ 1099511627776) (R : Nat → Bool → Prop) :
    Ev (fun n => impl_sameBar.c n a b c l d e f l' (R n)) ↔ Ev (fun n => R n (decide (((a, b, c, l) : tBar) = (d, e, f, l')))) := by
  refine Ev.suc.trans ?_
  simp (disch := omega) only [impl_sameBar.c, impl_sameBar.w, Ev.iteI, decide_eq_true_eq, same_ev, Ev.s1 R, Prod.mk.injEq]
  (repeat' split) <;> simp_all

/-- A bar behind others, if it is not there. -/
def putBar (out : List tBar) (b : tBar) : List tBar := if b ∈ out then out else out ++ [b]

theorem put_lp {l : List tBar} {a b c : Int} {d : List Int} (hl : l.length ≤ 1099511627776) : ∀ (ys : List tBar) (x : Int), l.drop x.toNat = ys → 0 ≤ x → (∀ y : tBar, y ∈ ys → y.2.2.2.length ≤ 1099511627776) →
    ∀ (Kx : Nat → List tBar → Int → Int → Int → List Int → Prop) (Kr : Nat → List tBar → Prop),
    (Ev (fun n => spec_l9Put.l2 n l a b c d x (Kx n) (Kr n)) ↔ if ((a, b, c, d) : tBar) ∈ ys then Ev (fun n => Kr n l) else Ev (fun n => Kx n l a b c d))
  | [], x, h, h0, hy, Kx, Kr => by
    have := drop_nil h h0
    refine Ev.suc.trans ?_
    simp (disch := omega) only [spec_l9Put.l2, spec_l9Put.l2.b, if_neg, decide_eq_true_eq, Ev.s5 Kx, List.not_mem_nil, if_false]
  | y :: ys, x, h, h0, hy, Kx, Kr => by
    obtain ⟨e1, e2, e3⟩ := drop_cons h h0
    have hy0 := hy y List.mem_cons_self
    refine Ev.suc.trans ?_
    simp (disch := omega) only [spec_l9Put.l2, spec_l9Put.l2.b, if_pos, decide_eq_true_eq, grd_dec2, e2, wrap64, sameBarS_ev, Ev.iteI, Ev.s1 Kr]
    rw [put_lp hl ys (x + 1) e3 (by omega) (fun y hy' => hy y (List.mem_cons_of_mem _ hy')), Ev.s5 Kx, Ev.s1 Kr]
    by_cases hq : ((a, b, c, d) : tBar) = y
    · subst hq; simp
    · rw [if_neg (fun e => hq e.symm)]
      simp only [List.mem_cons, hq, false_or]

theorem put_ev {l : List tBar} {a b c : Int} {d : List Int} (hl : l.length ≤ 1099511627776) (hy : ∀ y : tBar, y ∈ l → y.2.2.2.length ≤ 1099511627776) (hd : d.length ≤ 1099511627776) (R : Nat → List tBar → Prop) :
    Ev (fun n => spec_l9Put.c n l a b c d (R n)) ↔ Ev (fun n => R n (putBar l (a, b, c, d))) := by
  refine Ev.suc.trans ?_
  simp (disch := (simp only [List.length_cons, List.length_nil]; omega)) only [spec_l9Put.c, spec_l9Put.w]
  rw [put_lp hl l 0 rfl (by omega) hy]
  simp (disch := first | omega | (simp only [List.length_cons, List.length_nil]; omega)) only [and_self, Ev.andI, copyBits_ev, grd_dec, Ev.s1 R, putBar]
  split <;> rfl

theorem addBar1_ev {a b c : Int} {l : List Int} {z : tBar} (hl : l.length ≤ 1099511627776) (R : Nat → Bool → Prop) :
    Ev (fun n => impl_addBar_1.c n a b c l z (R n)) ↔ Ev (fun n => R n (decide (((a, b, c, l) : tBar) = z))) := by
  refine Ev.suc.trans ?_
  simp (disch := omega) only [impl_addBar_1.c, impl_addBar_1.w, sameBar_ev, Ev.s1 R]

theorem slices_IndexFunc_Bar__impl_addBar_1_lp {l : List tBar} {z : tBar} (hl : l.length ≤ 1099511627776) : ∀ (ys : List tBar) (x : Int), l.drop x.toNat = ys → 0 ≤ x → (∀ y : tBar, y ∈ ys → y.2.2.2.length ≤ 1099511627776) →
    ∀ (Kx : Nat → Prop) (Kr : Nat → Int → Prop),
    (Ev (fun n => slices_IndexFunc_Bar__impl_addBar_1.l2 n l z l.length x (Kx n) (Kr n)) ↔ if firstIx (fun y => decide (y = z)) ys x < 0 then Ev Kx else Ev (fun n => Kr n (firstIx (fun y => decide (y = z)) ys x)))
  | [], x, h, h0, hy, Kx, Kr => by
    have := drop_nil h h0
    rw [firstIx, if_pos (by decide)]
    refine Ev.suc.trans ?_
    simp (disch := omega) only [slices_IndexFunc_Bar__impl_addBar_1.l2, slices_IndexFunc_Bar__impl_addBar_1.l2.b, if_neg, decide_eq_true_eq, Ev.s0 Kx]
  | y :: ys, x, h, h0, hy, Kx, Kr => by
    obtain ⟨e1, e2, e3⟩ := drop_cons h h0
    have hy0 := hy y List.mem_cons_self
    refine Ev.suc.trans ?_
    simp (disch := first | omega | omega) only [slices_IndexFunc_Bar__impl_addBar_1.l2, slices_IndexFunc_Bar__impl_addBar_1.l2.b, if_pos, decide_eq_true_eq, grd_dec2, e2, wrap64, Ev.s1 Kr, addBar1_ev, Ev.iteI]
    rw [slices_IndexFunc_Bar__impl_addBar_1_lp hl ys (x + 1) e3 (by omega) (fun y hy' => hy y (List.mem_cons_of_mem _ hy')), Ev.s0 Kx, Ev.s1 Kr]
    simp only [firstIx, decide_eq_true_eq]
    split
    · rw [if_neg (by omega)]
    · rfl

theorem slices_IndexFunc_Bar__impl_addBar_1_ev {l : List tBar} {z : tBar} (hl : l.length ≤ 1099511627776) (hy : ∀ y : tBar, y ∈ l → y.2.2.2.length ≤ 1099511627776) (R : Nat → Int → Prop) :
    Ev (fun n => slices_IndexFunc_Bar__impl_addBar_1.c n l z (R n)) ↔ Ev (fun n => R n (firstIx (fun y => decide (y = z)) l 0)) := by
  refine Ev.suc.trans ?_
  simp only [slices_IndexFunc_Bar__impl_addBar_1.c, slices_IndexFunc_Bar__impl_addBar_1.w]
  rw [slices_IndexFunc_Bar__impl_addBar_1_lp hl l 0 rfl (by omega) hy, Ev.s1 R, Ev.s1 R]
  split
  · rw [firstIx_neg (by omega) ‹_›]
  · rfl

theorem slices_ContainsFunc_Bar__impl_addBar_1_ev {l : List tBar} {z : tBar} (hl : l.length ≤ 1099511627776) (hy : ∀ y : tBar, y ∈ l → y.2.2.2.length ≤ 1099511627776) (R : Nat → Bool → Prop) :
    Ev (fun n => slices_ContainsFunc_Bar__impl_addBar_1.c n l z (R n)) ↔ Ev (fun n => R n (l.any fun y => decide (y = z))) := by
  refine Ev.suc.trans ?_
  simp only [slices_ContainsFunc_Bar__impl_addBar_1.c, slices_ContainsFunc_Bar__impl_addBar_1.w]
  rw [slices_IndexFunc_Bar__impl_addBar_1_ev hl hy, Ev.s1 R, firstIx_any (by omega)]


theorem addBar_ev {l : List tBar} {a b c : Int} {d : List Int} (hl : l.length ≤ 1099511627776) (hy : ∀ y : tBar, y ∈ l → y.2.2.2.length ≤ 1099511627776) (hd : d.length ≤ 1099511627776) (R : Nat → List tBar → Prop) :
    Ev (fun n => impl_addBar.c n l a b c d (R n)) ↔ Ev (fun n => R n (putBar l (a, b, c, d))) := by
  refine Ev.suc.trans ?_
  simp (disch := first | assumption | omega | (simp only [List.length_cons, List.length_nil]; omega)) only [impl_addBar.c, impl_addBar.w, slices_ContainsFunc_Bar__impl_addBar_1_ev, and_self, Ev.andI, Ev.iteI, cloneBits_ev, grd_dec, Ev.s1 R, putBar]
  by_cases h : ((a, b, c, d) : tBar) ∈ l
  · rw [if_pos h, if_pos]
    rw [List.any_eq_true]; exact ⟨_, h, by simp⟩
  · rw [if_neg h, if_neg]
    rw [List.any_eq_true]; rintro ⟨y, hy', e⟩
    rw [decide_eq_true_eq] at e; subst e; exact h hy'

/-! ### What must be -/

def mustBars : List tSplit → List tBar → List tBar
  | [], out => out
  | s :: r, out => mustBars r (if s.2.1 = 3 ∧ s.2.2.length = 1 then putBar out (rd s.2.2 0) else out)

/-- Lists of bars that are not too long. -/
def Bars (l : List tBar) (k : Nat) : Prop := l.length ≤ k ∧ ∀ y : tBar, y ∈ l → y.2.2.2.length ≤ 1099511627776

theorem putBar_bars {l : List tBar} {k : Nat} {b : tBar} (h : Bars l k) (hb : b.2.2.2.length ≤ 1099511627776) : Bars (putBar l b) (k + 1) := by
  unfold putBar
  split
  · exact ⟨by have := h.1; omega, h.2⟩
  · refine ⟨by have := h.1; simp; omega, fun y hy => ?_⟩
    rcases List.mem_append.1 hy with hy | hy
    · exact h.2 y hy
    · rw [List.mem_singleton] at hy; subst hy; exact hb

theorem mustBars_bars : ∀ {ys : List tSplit} {out : List tBar} {k : Nat}, Bars out k → (∀ y : tSplit, y ∈ ys → ∀ z : tBar, z ∈ y.2.2 → z.2.2.2.length ≤ 1099511627776) → Bars (mustBars ys out) (k + ys.length)
  | [], out, k, h, _ => h
  | s :: r, out, k, h, hy => by
    rw [mustBars, List.length_cons, show k + (r.length + 1) = (k + 1) + r.length from by omega]
    refine mustBars_bars ?_ (fun y hy' => hy y (List.mem_cons_of_mem _ hy'))
    split
    · rename_i hs
      refine putBar_bars h (hy s List.mem_cons_self _ ?_)
      rw [rd, List.getD_eq_getElem?_getD, List.getElem?_eq_getElem (by omega)]
      exact List.getElem_mem _
    · exact ⟨by have := h.1; omega, h.2⟩

theorem mustS_lp {l : List tSplit} (hl : l.length ≤ 1048576) : ∀ (ys : List tSplit) (x : Int) (out : List tBar) (k : Nat), l.drop x.toNat = ys → 0 ≤ x → (∀ y : tSplit, y ∈ ys → ∀ z : tBar, z ∈ y.2.2 → z.2.2.2.length ≤ 1099511627776) → Bars out k → k + ys.length ≤ 1048576 →
    ∀ (Kx : Nat → List tBar → Prop), (Ev (fun n => spec_MustBars.l3 n l x out (Kx n)) ↔ Ev (fun n => Kx n (mustBars ys out)))
  | [], x, out, k, h, h0, hy, hb, hk, Kx => by
    have := drop_nil h h0
    refine Ev.suc.trans ?_
    simp (disch := omega) only [spec_MustBars.l3, spec_MustBars.l3.b, if_neg, decide_eq_true_eq, Ev.s1 Kx, mustBars]
  | y :: ys, x, out, k, h, h0, hy, hb, hk, Kx => by
    obtain ⟨e1, e2, e3⟩ := drop_cons h h0
    have hy0 := hy y List.mem_cons_self
    have hy1 := fun y hy' => hy y (List.mem_cons_of_mem _ hy')
    rw [List.length_cons] at hk
    have hb1 := hb.1
    have hb2 := hb.2
    have ih := fun out' hb' => mustS_lp hl ys (x + 1) out' (k + 1) e3 (by omega) hy1 hb' (by omega) (fun n => Kx (n + 1))
    refine Ev.suc.trans ?_
    by_cases hs : y.2.1 = 3 ∧ y.2.2.length = 1
    · have hm : rd y.2.2 0 ∈ y.2.2 := by
        rw [rd, List.getD_eq_getElem?_getD, List.getElem?_eq_getElem (by omega)]
        exact List.getElem_mem _
      have hz := hy0 _ hm
      have hs1 := hs.1
      have hs2 := hs.2
      simp (disch := first | assumption | omega) only [spec_MustBars.l3, spec_MustBars.l3.b, spec_MustBars.j3, if_pos, decide_eq_true_eq, grd_dec2, grd_dec, e2, wrap64, put_ev]
      rw [ih _ (putBar_bars hb hz), Ev.s1 Kx, mustBars, if_pos hs]
    · have e : mustBars (y :: ys) out = mustBars ys out := by rw [mustBars, if_neg hs]
      rw [e]
      have ih := ih out ⟨by omega, hb2⟩
      by_cases h1 : y.2.1 = 3
      · have h2 : ¬ y.2.2.length = 1 := fun h => hs ⟨h1, h⟩
        simp (disch := first | assumption | omega) only [spec_MustBars.l3, spec_MustBars.l3.b, spec_MustBars.j3, if_pos, if_neg, decide_eq_true_eq, grd_dec2, e2, wrap64]
        rw [ih, Ev.s1 Kx]
      · simp (disch := first | assumption | omega) only [spec_MustBars.l3, spec_MustBars.l3.b, spec_MustBars.j3, if_pos, if_neg, decide_eq_true_eq, grd_dec2, e2, wrap64, Bool.false_eq_true, if_false]
        rw [ih, Ev.s1 Kx]

theorem must_lp {l : List tSplit} (hl : l.length ≤ 1048576) : ∀ (ys : List tSplit) (x : Int) (out : List tBar) (k : Nat), l.drop x.toNat = ys → 0 ≤ x → (∀ y : tSplit, y ∈ ys → ∀ z : tBar, z ∈ y.2.2 → z.2.2.2.length ≤ 1099511627776) → Bars out k → k + ys.length ≤ 1048576 →
    ∀ (Kx : Nat → List tBar → Prop), (Ev (fun n => impl_MustBars.l3 n l l.length x out (Kx n)) ↔ Ev (fun n => Kx n (mustBars ys out)))
  | [], x, out, k, h, h0, hy, hb, hk, Kx => by
    have := drop_nil h h0
    refine Ev.suc.trans ?_
    simp (disch := omega) only [impl_MustBars.l3, impl_MustBars.l3.b, if_neg, decide_eq_true_eq, Ev.s1 Kx, mustBars]
  | y :: ys, x, out, k, h, h0, hy, hb, hk, Kx => by
    obtain ⟨e1, e2, e3⟩ := drop_cons h h0
    have hy0 := hy y List.mem_cons_self
    have hy1 := fun y hy' => hy y (List.mem_cons_of_mem _ hy')
    rw [List.length_cons] at hk
    have hb1 := hb.1
    have hb2 := hb.2
    have ih := fun out' hb' => must_lp hl ys (x + 1) out' (k + 1) e3 (by omega) hy1 hb' (by omega) (fun n => Kx (n + 1))
    refine Ev.suc.trans ?_
    by_cases hs : y.2.1 = 3 ∧ y.2.2.length = 1
    · have hm : rd y.2.2 0 ∈ y.2.2 := by
        rw [rd, List.getD_eq_getElem?_getD, List.getElem?_eq_getElem (by omega)]
        exact List.getElem_mem _
      have hz := hy0 _ hm
      have hs1 := hs.1
      have hs2 := hs.2
      simp (disch := first | assumption | omega) only [impl_MustBars.l3, impl_MustBars.l3.b, impl_MustBars.j3, if_pos, decide_eq_true_eq, grd_dec2, grd_dec, e2, wrap64, addBar_ev]
      rw [ih _ (putBar_bars hb hz), Ev.s1 Kx, mustBars, if_pos hs]
    · have e : mustBars (y :: ys) out = mustBars ys out := by rw [mustBars, if_neg hs]
      rw [e]
      have ih := ih out ⟨by omega, hb2⟩
      by_cases h1 : y.2.1 = 3
      · have h2 : ¬ y.2.2.length = 1 := fun h => hs ⟨h1, h⟩
        simp (disch := first | assumption | omega) only [impl_MustBars.l3, impl_MustBars.l3.b, impl_MustBars.j3, if_pos, if_neg, decide_eq_true_eq, grd_dec2, e2, wrap64]
        rw [ih, Ev.s1 Kx]
      · simp (disch := first | assumption | omega) only [impl_MustBars.l3, impl_MustBars.l3.b, impl_MustBars.j3, if_pos, if_neg, decide_eq_true_eq, grd_dec2, e2, wrap64, Bool.false_eq_true, if_false]
        rw [ih, Ev.s1 Kx]

theorem mustBarsS_ev {l : List tSplit} (hl : l.length ≤ 1048576) (hy : ∀ y : tSplit, y ∈ l → ∀ z : tBar, z ∈ y.2.2 → z.2.2.2.length ≤ 1099511627776) (R : Nat → List tBar → Prop) :
    Ev (fun n => spec_MustBars.c n l (R n)) ↔ Ev (fun n => R n (mustBars l [])) := by
  refine Ev.suc.trans ?_
  simp only [spec_MustBars.c, spec_MustBars.w]
  rw [mustS_lp hl l 0 [] 0 rfl (by omega) hy ⟨by simp, fun y hy => absurd hy List.not_mem_nil⟩ (by omega), Ev.s1 R]

theorem mustBars_ev {l : List tSplit} (hl : l.length ≤ 1048576) (hy : ∀ y : tSplit, y ∈ l → ∀ z : tBar, z ∈ y.2.2 → z.2.2.2.length ≤ 1099511627776) (R : Nat → List tBar → Prop) :
    Ev (fun n => impl_MustBars.c n l (R n)) ↔ Ev (fun n => R n (mustBars l [])) := by
  refine Ev.suc.trans ?_
  simp only [impl_MustBars.c, impl_MustBars.w]
  rw [must_lp hl l 0 [] 0 rfl (by omega) hy ⟨by simp, fun y hy => absurd hy List.not_mem_nil⟩ (by omega), Ev.s1 R]

end Go.Vsi
end

section
set_option linter.unusedVariables false
set_option linter.unusedSimpArgs false
set_option synthInstance.maxSize 4096
namespace Go.Vsi

theorem sBarS_app (l : List tBar) (b : tBar) : sBarS (l ++ [b]) = sBarS l + b.2.2.2.length := by
  induction l with
  | nil => simp [sBarS]
  | cons a l ih => simp only [List.cons_append, sBarS, ih]; omega

theorem mustBars_size : ∀ {ys : List tSplit} {out : List tBar}, sBarS (mustBars ys out) ≤ sBarS out + sSplitS ys
  | [], out => by simp [mustBars]
  | s :: r, out => by
    rw [mustBars, sSplitS]
    split
    · rename_i hc
      have hm : rd s.2.2 0 ∈ s.2.2 := by
        rw [rd, List.getD_eq_getElem?_getD, List.getElem?_eq_getElem (by omega)]
        exact List.getElem_mem _
      have := sBarS_mem hm
      have := mustBars_size (ys := r) (out := putBar out (rd s.2.2 0))
      unfold putBar at this ⊢
      split
      · rename_i h; rw [if_pos h] at this; omega
      · rename_i h; rw [if_neg h, sBarS_app] at this; omega
    · have := mustBars_size (ys := r) (out := out)
      omega

theorem mustBars_q {a : List tSplit} {b : Bool} {c d : List tBar} (R : Nat → Bool → Prop) (S : Nat → List tSplit → List tBar → List tBar → Prop) :
    Ev (fun n => laws_FnExactMustBars.q15 n a b c d (R n) (S n)) ↔ if b = true then Ev (fun n => R n false) else Ev (fun n => S n a c d) := by
  refine Ev.suc.trans ?_
  simp only [laws_FnExactMustBars.q15, laws_FnExactMustBars.q15.b, Ev.iteI, Ev.s1 R, Ev.s3 S]

theorem mustBars_law {a : List tSplit} (h : Gd (.sl 0 ySplit) a) (K : Bool → Prop) :
    Ev (fun n => laws_FnExactMustBars.c n a K) ↔ K true := by
  refine Ev.suc.trans ?_
  simp only [laws_FnExactMustBars.c, laws_FnExactMustBars.w]
  rw [laws_szSplitS_ev (by omega) (by omega) h.1 (szSplitS_gd h)]
  simp only [Ev.iteI, decide_eq_true_eq, Ev.k]
  by_cases hz : a.length + sSplitS a ≤ 1048576
  · have hs : ¬ szr 1048576 (a.length + sSplitS a) < 0 := by rw [szr_neg]; omega
    rw [if_neg hs]
    have q1 := eqSplitS_of (l := a) (by omega)
    have q2 := markSplitS_of (l := a) (by omega)
    have c1 := cSplitS_le (l := a)
    have hyz : ∀ y : tSplit, y ∈ a → ∀ z : tBar, z ∈ y.2.2 → z.2.2.2.length ≤ 1048576 := fun y hy z hz' => by
      have := sSplitS_mem hy; have := sBarS_mem hz'; omega
    have hyz' : ∀ y : tSplit, y ∈ a → ∀ z : tBar, z ∈ y.2.2 → z.2.2.2.length ≤ 1099511627776 := fun y hy z hz' => by
      have := hyz y hy z hz'; omega
    have b0 : Bars [] 0 := ⟨by simp, fun y hy => absurd hy List.not_mem_nil⟩
    have b1 := (mustBars_bars b0 hyz').1
    have b2 := mustBars_size (ys := a) (out := [])
    rw [show sBarS [] = 0 from rfl] at b2
    have c2 := cBarS_le (l := mustBars a [])
    have t1 := fun R => laws_toSplitS_ev hz R
    have s1 := fun R => mustBarsS_ev (l := a) (by omega) hyz' R
    have s2 := fun R => mustBars_ev (l := a) (by omega) hyz' R
    have e1 := fun R => laws_eqBarS_ev (l := mustBars a []) (l' := mustBars a []) (by omega) (eqBarS_of (by omega)) R
    have e2 := fun R => laws_eqSplitS_ev (l := a) (l' := a) (by omega) q1 R
    have m1 := fun R => laws_markSplitS_ev (l := a) (k := 1) (by omega) (by omega) (by omega) q2 R
    have m2 := fun R => laws_markBarS_1_ev (l := mustBars a []) (k := 1) (by omega) (by omega) (by omega) (markBarS_of (by omega)) R
    have k2 := fun R => laws_heldBarS_ev (l := mustBars a []) (k := 1) (by omega) (by omega) (by omega) (markBarS_of (by omega)) R
    have n1 : ¬ (1 + (cSplitS a : Int)) < 0 := by omega
    have n2 : ¬ (1 + (cBarS (mustBars a []) : Int)) < 0 := by omega
    simp only [t1, s1, s2, e1, e2, m1, mustBars_q, laws_FnExactMustBars.j0, m2, k2, decide_true, Bool.not_true, Bool.false_eq_true, if_false, n1, n2, decide_false, if_true, Ev.k]
  · have hs : szr 1048576 (a.length + sSplitS a) < 0 := by rw [szr_neg]; omega
    rw [if_pos hs]

end Go.Vsi
end
