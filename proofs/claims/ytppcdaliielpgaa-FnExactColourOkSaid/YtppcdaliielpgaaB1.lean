/- What the told functions answer. No statement is proved here. -/
import Derived.Test.YtppcdaliielpgaaA1

section
set_option linter.unusedVariables false
namespace Go.Vsi

/-- From some number of rounds on. -/
def Ev (P : Nat → Prop) : Prop := ∃ N, ∀ n, N ≤ n → P n

theorem Ev.succ {P : Nat → Prop} : Ev (fun n => P (n + 1)) → Ev P
  | ⟨N, h⟩ => ⟨N + 1, fun n hn => by obtain ⟨m, rfl⟩ : ∃ m, n = m + 1 := ⟨n - 1, by omega⟩; exact h m (by omega)⟩

theorem Ev.shift {P : Nat → Prop} : Ev P → Ev (fun n => P (n + 1))
  | ⟨N, h⟩ => ⟨N, fun n hn => h (n + 1) (by omega)⟩

theorem Ev.and {P Q : Nat → Prop} : Ev P → Ev Q → Ev (fun n => P n ∧ Q n)
  | ⟨N, h⟩, ⟨M, g⟩ => ⟨max N M, fun n hn => ⟨h n (by omega), g n (by omega)⟩⟩

theorem Ev.const {p : Prop} (h : p) : Ev (fun _ => p) := ⟨0, fun _ _ => h⟩

theorem Ev.some {P : Nat → Prop} : Ev P → ∃ n, P n
  | ⟨N, h⟩ => ⟨N, h N (Nat.le_refl _)⟩


theorem wrap64 {x : Int} (h1 : -9223372036854775808 ≤ x) (h2 : x < 9223372036854775808) : IntKind.wrap .i64 x = x := by
  simp only [IntKind.wrap, IntKind.bits, IntKind.signed, Bool.true_and]
  split <;> simp_all <;> omega

theorem wrapU {x : Int} (h1 : 0 ≤ x) (h2 : x < 18446744073709551616) : IntKind.wrap .u64 x = x := by
  simp only [IntKind.wrap, IntKind.bits, IntKind.signed, Bool.false_and]
  simp; omega

theorem wrap8 {x : Int} (h1 : 0 ≤ x) (h2 : x < 256) : IntKind.wrap .u8 x = x := by
  simp only [IntKind.wrap, IntKind.bits, IntKind.signed, Bool.false_and]
  simp; omega

theorem tdivP {x m : Int} (h : 0 ≤ x) : Int.tdiv x m = x / m := Int.tdiv_eq_ediv_of_nonneg h
theorem tmodP {x m : Int} (h : 0 ≤ x) : Int.tmod x m = x % m := Int.tmod_eq_emod_of_nonneg h

theorem fdivP {x m : Int} (h : 0 ≤ m) : Int.fdiv x m = x / m := Int.fdiv_eq_ediv_of_nonneg x h


/-- Natural numbers as whole numbers. -/
def W (ws : List Nat) : List Int := ws.map Int.ofNat

theorem W_len (ws : List Nat) : (W ws).length = ws.length := by simp [W]

theorem W_rd (ws : List Nat) (i : Nat) : rd (W ws) i = ((ws.getD i 0 : Nat) : Int) := by
  simp only [rd, W, List.getD_eq_getElem?_getD, List.getElem?_map]
  cases ws[i]? <;> rfl

/-- Every word is below m. -/
def Below (m : Nat) (ws : List Nat) : Prop := ∀ x ∈ ws, x < m

theorem W_of {m : Nat} : ∀ {l : List Int}, (∀ x ∈ l, 0 ≤ x ∧ x < (m : Int)) → ∃ ws, l = W ws ∧ Below m ws
  | [], _ => ⟨[], rfl, by simp [Below]⟩
  | x :: l, h => by
    obtain ⟨ws, rfl, hb⟩ := W_of (l := l) fun y hy => h y (by simp [hy])
    have hx := h x (by simp)
    refine ⟨x.toNat :: ws, ?_, ?_⟩
    · simp only [W, List.map_cons, List.cons.injEq, and_true]
      show x = (x.toNat : Int); omega
    · intro y hy
      simp only [List.mem_cons] at hy
      rcases hy with rfl | hy
      · omega
      · exact hb y hy

theorem Below.getD {m : Nat} {ws : List Nat} (h : Below m ws) (hm : 0 < m) (i : Nat) : ws.getD i 0 < m := by
  rw [List.getD_eq_getElem?_getD]
  cases hw : ws[i]? with
  | none => exact hm
  | some y => exact h y (List.mem_of_getElem? hw)

theorem Below.set {m : Nat} {ws : List Nat} (h : Below m ws) {i x : Nat} (hx : x < m) : Below m (ws.set i x) := by
  intro y hy
  rcases List.mem_or_eq_of_mem_set hy with h' | rfl
  · exact h y h'
  · exact hx


theorem and_W {a b : Nat} (ha : a < 18446744073709551616) (hb : b < 18446744073709551616) : ibits .and .u64 (a : Int) (b : Int) = ((a &&& b : Nat) : Int) := by
  have hab : a &&& b < 2 ^ 64 := Nat.and_lt_two_pow a hb
  show IntKind.wrap .u64 (((BitVec.ofInt 64 (a : Int) &&& BitVec.ofInt 64 (b : Int) : BitVec 64).toNat : Nat) : Int) = _
  rw [BitVec.toNat_and, BitVec.ofInt_natCast, BitVec.ofInt_natCast, BitVec.toNat_ofNat, BitVec.toNat_ofNat]
  rw [Nat.mod_eq_of_lt ha, Nat.mod_eq_of_lt hb]
  exact wrapU (by omega) (by omega)

theorem shr_W (a k : Nat) (hk : k ≤ 64) : Int.fdiv (a : Int) (2 ^ (Nat.min k 64)) = ((a >>> k : Nat) : Int) := by
  rw [fdivP (Int.le_of_lt (Int.pow_pos (by decide))), show Nat.min k 64 = k from Nat.min_eq_left hk, Nat.shiftRight_eq_div_pow]
  simp


/-- One bit of a row of words. -/
def bit (ws : List Nat) (i : Nat) : Bool := (ws.getD (i / 64) 0).testBit (i % 64)

theorem bit_out {ws : List Nat} {i : Nat} (h : 64 * ws.length ≤ i) : bit ws i = false := by
  have : ws.length ≤ i / 64 := by omega
  simp [bit, List.getD_eq_getElem?_getD, List.getElem?_eq_none this]


end Go.Vsi
end

section
set_option linter.unusedVariables false
namespace Go.Vsi

theorem Ev.suc {P : Nat → Prop} : Ev P ↔ Ev (fun n => P (n + 1)) := ⟨Ev.shift, Ev.succ⟩

theorem Ev.s0 (R : Nat → Prop) : Ev (fun n => R (n + 1)) ↔ Ev (fun n => R n) := ⟨Ev.succ, Ev.shift⟩
theorem Ev.s1 {α : Type} (R : Nat → α → Prop) (a : α) : Ev (fun n => R (n + 1) a) ↔ Ev (fun n => R n a) := Ev.s0 (fun n => R n a)
theorem Ev.s2 {α β : Type} (R : Nat → α → β → Prop) (a : α) (b : β) : Ev (fun n => R (n + 1) a b) ↔ Ev (fun n => R n a b) := Ev.s0 (fun n => R n a b)
theorem Ev.s3 {α β γ : Type} (R : Nat → α → β → γ → Prop) (a : α) (b : β) (c : γ) : Ev (fun n => R (n + 1) a b c) ↔ Ev (fun n => R n a b c) := Ev.s0 (fun n => R n a b c)
theorem Ev.s4 {α β γ δ : Type} (R : Nat → α → β → γ → δ → Prop) (a : α) (b : β) (c : γ) (d : δ) : Ev (fun n => R (n + 1) a b c d) ↔ Ev (fun n => R n a b c d) := Ev.s0 (fun n => R n a b c d)
theorem Ev.s8 {α β γ δ ε ζ η θ : Type} (R : Nat → α → β → γ → δ → ε → ζ → η → θ → Prop) (a : α) (b : β) (c : γ) (d : δ) (e : ε) (f : ζ) (g : η) (h : θ) : Ev (fun n => R (n + 1) a b c d e f g h) ↔ Ev (fun n => R n a b c d e f g h) := Ev.s0 (fun n => R n a b c d e f g h)
@[simp] theorem Ev.k {p : Prop} : Ev (fun _ => p) ↔ p := ⟨fun ⟨_, h⟩ => h _ (Nat.le_refl _), Ev.const⟩

@[simp] theorem Ev.iteI {c : Prop} [Decidable c] {P Q : Nat → Prop} : Ev (fun n => if c then P n else Q n) ↔ if c then Ev P else Ev Q := by
  by_cases h : c <;> simp only [h, if_true, if_false]

@[simp] theorem Ev.andI {P Q : Nat → Prop} : Ev (fun n => P n ∧ Q n) ↔ Ev P ∧ Ev Q :=
  ⟨fun ⟨N, h⟩ => ⟨⟨N, fun n hn => (h n hn).1⟩, ⟨N, fun n hn => (h n hn).2⟩⟩, fun h => Ev.and h.1 h.2⟩

theorem grd_dec {p : Prop} [Decidable p] {P : Prop} (h : p) : grd (decide p) P ↔ P := by rw [decide_eq_true h]; exact Iff.rfl
theorem grd_dec2 {p q : Prop} [Decidable p] [Decidable q] {P : Prop} (h : p ∧ q) : grd (decide p && decide q) P ↔ P := by rw [decide_eq_true h.1, decide_eq_true h.2]; exact Iff.rfl
@[simp] theorem grd_true {P : Prop} : grd true P ↔ P := Iff.rfl


theorem drop_nil {α : Type} {l : List α} {x : Int} (h : l.drop x.toNat = []) (h0 : 0 ≤ x) : (l.length : Int) ≤ x := by
  have := List.drop_eq_nil_iff.1 h; omega

theorem drop_cons {α : Type} [Inhabited α] {l ys : List α} {x : Int} {y : α} (h : l.drop x.toNat = y :: ys) (h0 : 0 ≤ x) :
    x < (l.length : Int) ∧ rd l x.toNat = y ∧ l.drop (x + 1).toNat = ys := by
  have hl : x.toNat < l.length := by
    rcases Nat.lt_or_ge x.toNat l.length with h' | h'
    · exact h'
    · rw [List.drop_eq_nil_of_le h'] at h; cases h
  refine ⟨by omega, ?_, ?_⟩
  · have := List.getElem?_drop (xs := l) (i := x.toNat) (j := 0)
    rw [h] at this
    simp only [List.getElem?_cons_zero, Nat.add_zero] at this
    simp [rd, List.getD_eq_getElem?_getD, ← this]
  · rw [show (x + 1).toNat = x.toNat + 1 from by omega, ← List.drop_drop, h]; rfl

theorem take_set {α : Type} {l : List α} {x : Int} {v : α} (h0 : 0 ≤ x) (hx : x < (l.length : Int)) : (l.set x.toNat v).take (x + 1).toNat = l.take x.toNat ++ [v] := by
  have e : (x + 1).toNat = x.toNat + 1 := by omega
  have hl : x.toNat < l.length := by omega
  rw [e, List.take_succ_eq_append_getElem (by simpa using hl), List.take_set_of_le (by omega)]
  simp

theorem ev_arg {α : Type} {R : Nat → α → Prop} {a b : α} (h : a = b) : Ev (fun n => R n a) ↔ Ev (fun n => R n b) := by rw [h]
/-- Data that came in: numbers are of their kinds, nothing is too long. -/
def Gd : (t : Ty) → t.T → Prop
  | .int k, n => k.min ≤ n ∧ n ≤ k.max
  | .str, s => s.length ≤ 9223372036854775807
  | .sl _ t, l => l.length ≤ 9223372036854775807 ∧ ∀ y, y ∈ l → Gd t y
  | .prod a b, p => Gd a p.1 ∧ Gd b p.2
  | .bool, _ => True
  | .unit, _ => True
  | .ptr _ _, _ => True

/-- The first place, counted from x on, of what passes a test; -1: none does. -/
def firstIx {α : Type} (p : α → Bool) : List α → Int → Int
  | [], _ => -1
  | y :: r, x => if p y = true then x else firstIx p r (x + 1)

theorem firstIx_neg {α : Type} {p : α → Bool} : ∀ {l : List α} {x : Int}, 0 ≤ x → firstIx p l x < 0 → firstIx p l x = -1
  | [], x, _, _ => rfl
  | y :: l, x, h0, h => by
    rw [firstIx] at h ⊢
    split
    · rename_i hp; rw [if_pos hp] at h; omega
    · rename_i hp; rw [if_neg hp] at h; exact firstIx_neg (by omega) h

theorem firstIx_any {α : Type} {p : α → Bool} : ∀ {l : List α} {x : Int}, 0 ≤ x → decide (firstIx p l x ≥ 0) = l.any p
  | [], x, _ => by simp [firstIx]
  | y :: l, x, h0 => by
    rw [firstIx, List.any_cons]
    by_cases hp : p y = true
    · simp [hp, h0]
    · rw [if_neg hp, firstIx_any (by omega)]
      simp only [Bool.not_eq_true] at hp
      simp [hp]


/-- What is left behind so many. -/
def szr (left : Int) (z : Nat) : Int := if left < z then -1 else left - z
theorem szr_neg {left : Int} {z : Nat} : szr left z < 0 ↔ left < z := by unfold szr; split <;> omega
theorem szr_ok {left : Int} {z : Nat} (h : (z : Int) ≤ left) : szr left z = left - z := by unfold szr; rw [if_neg (by omega)]
theorem szr_no {left : Int} {z : Nat} (h : ¬ (z : Int) ≤ left) : szr left z = -1 := by unfold szr; rw [if_pos (by omega)]
theorem szr_two {left : Int} {y z : Nat} (h : 0 ≤ left) (hy : ¬ szr left y < 0) : szr (szr left y) z = szr left (y + z) := by
  rw [szr_neg] at hy
  unfold szr; split <;> split <;> split <;> omega
theorem szr_back {left : Int} {y z : Nat} (h : szr left y < 0) : szr left (y + z) = -1 := by
  rw [szr_neg] at h; unfold szr; split <;> omega
theorem szr_m1 {left : Int} {z : Nat} (h : -1 ≤ left) : -1 ≤ szr left z := by unfold szr; split <;> omega
theorem szr_le' {left b : Int} {z : Nat} (h : -1 ≤ left) (h' : left ≤ b) : szr left z ≤ b := by unfold szr; split <;> omega

end Go.Vsi
end

section
set_option linter.unusedVariables false
set_option linter.unusedSimpArgs false
set_option synthInstance.maxSize 4096
namespace Go.Vsi

theorem sEqual_lp {l l' : List Int} (hl : l.length ≤ 1099511627776) (hll : l.length = l'.length) : ∀ (ys ys' : List Int) (x : Int), l.drop x.toNat = ys → l'.drop x.toNat = ys' → 0 ≤ x → ∀ (Kx : Nat → Prop) (Kr : Nat → Bool → Prop),
    (Ev (fun n => slices_Equal_uint64.l4 n l l' l.length x (Kx n) (Kr n)) ↔ if ys = ys' then Ev Kx else Ev (fun n => Kr n false))
  | [], [], x, h, h', h0, Kx, Kr => by
    have := drop_nil h h0
    refine Ev.suc.trans ?_
    simp (disch := omega) only [slices_Equal_uint64.l4, slices_Equal_uint64.l4.b, if_neg, decide_eq_true_eq, Ev.s0 Kx, if_true]
  | [], y' :: ys', x, h, h', h0, Kx, Kr => by
    have := drop_nil h h0; have := (drop_cons h' h0).1; omega
  | y :: ys, [], x, h, h', h0, Kx, Kr => by
    have := drop_nil h' h0; have := (drop_cons h h0).1; omega
  | y :: ys, y' :: ys', x, h, h', h0, Kx, Kr => by
    obtain ⟨e1, e2, e3⟩ := drop_cons h h0
    obtain ⟨_, f2, f3⟩ := drop_cons h' h0
    refine Ev.suc.trans ?_
    simp (disch := omega) only [slices_Equal_uint64.l4, slices_Equal_uint64.l4.b, if_pos, decide_eq_true_eq, Ev.s0 Kx, Ev.s1 Kr, grd_dec2, e2, f2, wrap64, Ev.iteI, Bool.not_eq_true', decide_eq_false_iff_not]
    rw [sEqual_lp hl hll ys ys' (x + 1) e3 f3 (by omega), Ev.s0 Kx, Ev.s1 Kr]
    simp only [List.cons.injEq]
    (repeat' split) <;> first | rfl | (exfalso; simp_all; done)

theorem sEqual_ev {l l' : List Int} (hl : l.length ≤ 1099511627776) (R : Nat → Bool → Prop) :
    Ev (fun n => slices_Equal_uint64.c n l l' (R n)) ↔ Ev (fun n => R n (decide (l = l'))) := by
  refine Ev.suc.trans ?_
  simp (disch := omega) only [slices_Equal_uint64.c, slices_Equal_uint64.w, Ev.iteI, Bool.not_eq_true', decide_eq_false_iff_not, Ev.s1 R]
  split
  · rw [decide_eq_false]; intro e; subst e; omega
  · rw [sEqual_lp hl (by omega) l l' 0 rfl rfl (by omega), Ev.s1 R, Ev.s1 R]
    split
    · rw [decide_eq_true ‹_›]
    · rw [decide_eq_false ‹_›]

theorem same_ev {a b : Int} {l l' : List Int} (hl : l.length ≤ 1099511627776) (R : Nat → Bool → Prop) :
    Ev (fun n => impl_Bits_same.c n a l b l' (R n)) ↔ Ev (fun n => R n (decide (a = b ∧ l = l'))) := by
  refine Ev.suc.trans ?_
  simp (disch := omega) only [impl_Bits_same.c, impl_Bits_same.w, Ev.iteI, decide_eq_true_eq, sEqual_ev, Ev.s1 R]
  split
  · simp_all
  · rw [decide_eq_false]; simp_all

theorem sSame_lp {a b : Int} {l l' : List Int} (hl : l.length ≤ 1099511627776) (hll : l.length = l'.length) : ∀ (ys ys' : List Int) (x : Int), l.drop x.toNat = ys → l'.drop x.toNat = ys' → 0 ≤ x → ∀ (Kx : Nat → Prop) (Kr : Nat → Bool → Prop),
    (Ev (fun n => spec_l3SameBits.l4 n a l b l' x (Kx n) (Kr n)) ↔ if ys = ys' then Ev Kx else Ev (fun n => Kr n false))
  | [], [], x, h, h', h0, Kx, Kr => by
    have := drop_nil h h0
    refine Ev.suc.trans ?_
    simp (disch := omega) only [spec_l3SameBits.l4, spec_l3SameBits.l4.b, if_neg, decide_eq_true_eq, Ev.s0 Kx, if_true]
  | [], y' :: ys', x, h, h', h0, Kx, Kr => by
    have := drop_nil h h0; have := (drop_cons h' h0).1; omega
  | y :: ys, [], x, h, h', h0, Kx, Kr => by
    have := drop_nil h' h0; have := (drop_cons h h0).1; omega
  | y :: ys, y' :: ys', x, h, h', h0, Kx, Kr => by
    obtain ⟨e1, e2, e3⟩ := drop_cons h h0
    obtain ⟨_, f2, f3⟩ := drop_cons h' h0
    refine Ev.suc.trans ?_
    simp (disch := omega) only [spec_l3SameBits.l4, spec_l3SameBits.l4.b, if_pos, decide_eq_true_eq, Ev.s0 Kx, Ev.s1 Kr, grd_dec2, e2, f2, wrap64, Ev.iteI, Bool.not_eq_true', decide_eq_false_iff_not]
    rw [sSame_lp hl hll ys ys' (x + 1) e3 f3 (by omega), Ev.s0 Kx, Ev.s1 Kr]
    simp only [List.cons.injEq]
    (repeat' split) <;> first | rfl | (exfalso; simp_all; done)

theorem sSame_ev {a b : Int} {l l' : List Int} (hl : l.length ≤ 1099511627776) (R : Nat → Bool → Prop) :
    Ev (fun n => spec_l3SameBits.c n a l b l' (R n)) ↔ Ev (fun n => R n (decide (a = b ∧ l = l'))) := by
  refine Ev.suc.trans ?_
  simp (disch := omega) only [spec_l3SameBits.c, spec_l3SameBits.w, Ev.iteI, Bool.not_eq_true', Bool.not_eq_false', decide_eq_true_eq, decide_eq_false_iff_not, Ev.s1 R]
  split
  · split
    · rw [decide_eq_false]; rintro ⟨_, e⟩; subst e; omega
    · rw [sSame_lp hl (by omega) l l' 0 rfl rfl (by omega), Ev.s1 R, Ev.s1 R]
      split
      · rw [decide_eq_true ⟨‹_›, ‹_›⟩]
      · rw [decide_eq_false]; simp_all
  · rw [decide_eq_false]; simp_all



end Go.Vsi
end

section
set_option linter.unusedVariables false
set_option linter.unusedSimpArgs false
set_option synthInstance.maxSize 4096
namespace Go.Vsi

/-- Words that are words. -/
def Wd (l : List Int) : Prop := ∀ x ∈ l, 0 ≤ x ∧ x ≤ 18446744073709551615

/-- Is it a right word? -/
def bitsOk (w : Int) (l : List Int) : Bool := decide (1 ≤ w ∧ w ≤ 4096 ∧ (l.length : Int) = (w + 63) / 64 ∧ (w % 64 = 0 ∨ rd l (l.length - 1) / 2 ^ (w % 64).toNat = 0))

theorem bit_div {x j : Nat} : x / 2 ^ j % 2 = (x.testBit j).toNat := by
  rw [Nat.testBit, Nat.shiftRight_eq_div_pow, Nat.one_and_eq_mod_two]
  rcases Nat.mod_two_eq_zero_or_one (x / 2 ^ j) with h | h <;> simp [h]

theorem l1In_ev {a b c : Int} (R : Nat → Bool → Prop) : Ev (fun n => spec_l1In.c n a b c (R n)) ↔ Ev (fun n => R n (decide (b ≤ a ∧ a ≤ c))) := by
  refine Ev.suc.trans ?_
  simp only [spec_l1In.c, spec_l1In.w, Ev.iteI, decide_eq_true_eq, Ev.s1 R, ge_iff_le]
  split
  · refine ev_arg ?_; rw [decide_eq_decide]; omega
  · refine ev_arg ?_; symm; rw [decide_eq_false_iff_not]; omega

theorem inside_ev {a b c : Int} (R : Nat → Bool → Prop) : Ev (fun n => impl_inside.c n a b c (R n)) ↔ Ev (fun n => R n (decide (b ≤ a ∧ a ≤ c))) := by
  refine Ev.suc.trans ?_
  simp only [impl_inside.c, impl_inside.w, Ev.iteI, decide_eq_true_eq, Ev.s1 R, ge_iff_le]
  split
  · refine ev_arg ?_; rw [decide_eq_decide]; omega
  · refine ev_arg ?_; symm; rw [decide_eq_false_iff_not]; omega

theorem wordsFor_ev {a : Int} (h0 : 0 ≤ a) (h1 : a ≤ 1000000000) (R : Nat → Int → Prop) : Ev (fun n => impl_wordsFor.c n a (R n)) ↔ Ev (fun n => R n ((a + 63) / 64)) := by
  refine Ev.suc.trans ?_
  simp (disch := omega) only [impl_wordsFor.c, impl_wordsFor.w, wrap64, tdivP, Ev.s1 R]

theorem l1Bit_ev {ws : List Nat} (hw : Below 18446744073709551616 ws) {k : Nat} (hk : k < 64 * ws.length) (hl : ws.length ≤ 4096) {w : Int} (R : Nat → Int → Prop) :
    Ev (fun n => spec_l1Bit.c n w (W ws) k (R n)) ↔ Ev (fun n => R n ((bit ws k).toNat : Int)) := by
  refine Ev.suc.trans ?_
  have e : ibits .and .u64 ((ws.getD (k / 64) 0 >>> (k % 64) : Nat) : Int) 1 = (((bit ws k).toNat : Nat) : Int) := by
    have hx : ws.getD (k / 64) 0 >>> (k % 64) < 18446744073709551616 := by
      rw [Nat.shiftRight_eq_div_pow]; exact Nat.lt_of_le_of_lt (Nat.div_le_self _ _) (hw.getD (by decide) _)
    rw [show (1 : Int) = ((1 : Nat) : Int) from rfl, and_W hx (by decide), Nat.and_one_is_mod, Nat.shiftRight_eq_div_pow, bit_div]; rfl
  have e1 : Int.toNat ((k : Int) / 64) = k / 64 := by omega
  have e2 : Int.toNat ((k : Int) % 64) = k % 64 := by omega
  simp (disch := omega) only [spec_l1Bit.c, spec_l1Bit.w, W_len, tdivP, tmodP, wrap64, wrapU, grd_dec2, grd_dec, e1, e2, W_rd, shr_W, e]
  rw [wrap8 (by omega) (by cases bit ws k <;> simp), Ev.s1 R]

theorem specOk_lp {ws : List Nat} (hw : Below 18446744073709551616 ws) (hl : ws.length ≤ 4096) {w : Int} : ∀ (m k : Nat), k + m = 64 * ws.length → ∃ b : Bool, (b = true ↔ ∀ i, k ≤ i → bit ws i = false) ∧
    ∀ (Kx : Nat → Prop) (Kr : Nat → Bool → Prop), (Ev (fun n => spec_BitsOk.l4 n w (W ws) k (Kx n) (Kr n)) ↔ if b = true then Ev Kx else Ev (fun n => Kr n false))
  | 0, k, h => by
    refine ⟨true, ⟨fun _ i hi => bit_out (by omega), fun _ => rfl⟩, fun Kx Kr => ?_⟩
    refine Ev.suc.trans ?_
    simp (disch := omega) only [spec_BitsOk.l4, spec_BitsOk.l4.b, W_len, wrap64, if_neg, decide_eq_true_eq, Ev.s0 Kx, if_true]
  | m + 1, k, h => by
    obtain ⟨b, hb, kk⟩ := specOk_lp hw hl (w := w) m (k + 1) (by omega)
    refine ⟨b && !bit ws k, ?_, fun Kx Kr => ?_⟩
    · simp only [Bool.and_eq_true, Bool.not_eq_true', hb]
      constructor
      · rintro ⟨h1, h2⟩ i hi
        rcases Nat.lt_or_eq_of_le hi with h' | rfl
        · exact h1 i h'
        · exact h2
      · exact fun h => ⟨fun i hi => h i (by omega), h k (Nat.le_refl _)⟩
    · refine Ev.suc.trans ?_
      have e : ((k : Int) + 1) = ((k + 1 : Nat) : Int) := by omega
      simp (disch := omega) only [spec_BitsOk.l4, spec_BitsOk.l4.b, W_len, wrap64, if_pos, decide_eq_true_eq, l1Bit_ev hw _ hl, Ev.iteI, Bool.not_eq_true', decide_eq_false_iff_not, e, kk, Ev.s0 Kx, Ev.s1 Kr]
      cases bit ws k <;> simp

theorem top_last {w : Int} {ws : List Nat} (hw : Below 18446744073709551616 ws) (h1 : 1 ≤ w) (h2 : (ws.length : Int) = (w + 63) / 64) (hr : w % 64 ≠ 0) :
    ws.getD (ws.length - 1) 0 >>> (w % 64).toNat = 0 ↔ ∀ i : Nat, w ≤ i → bit ws i = false := by
  constructor
  · intro h i hi
    by_cases ho : 64 * ws.length ≤ i
    · exact bit_out ho
    · have e1 : i / 64 = ws.length - 1 := by omega
      have := congrArg (fun y => Nat.testBit y (i % 64 - (w % 64).toNat)) h
      simp only [Nat.testBit_shiftRight, Nat.zero_testBit] at this
      rw [show (w % 64).toNat + (i % 64 - (w % 64).toNat) = i % 64 from by omega] at this
      rw [bit, e1]; exact this
  · intro h
    apply Nat.eq_of_testBit_eq
    intro j
    rw [Nat.testBit_shiftRight, Nat.zero_testBit]
    by_cases hj : (w % 64).toNat + j < 64
    · have := h (64 * (ws.length - 1) + ((w % 64).toNat + j)) (by omega)
      rw [bit, show (64 * (ws.length - 1) + ((w % 64).toNat + j)) / 64 = ws.length - 1 from by omega, show (64 * (ws.length - 1) + ((w % 64).toNat + j)) % 64 = (w % 64).toNat + j from by omega] at this
      exact this
    · exact Nat.testBit_lt_two_pow (Nat.lt_of_lt_of_le (hw.getD (by decide) _) (Nat.pow_le_pow_right (n := 2) (by decide) (Nat.not_lt.mp hj)))

/-- A right word, by its bits. -/
theorem bitsOk_W {w : Int} {ws : List Nat} (hw : Below 18446744073709551616 ws) : bitsOk w (W ws) = true ↔ 1 ≤ w ∧ w ≤ 4096 ∧ (ws.length : Int) = (w + 63) / 64 ∧ ∀ i : Nat, w ≤ i → bit ws i = false := by
  rw [bitsOk, decide_eq_true_eq, W_len, W_rd]
  refine ⟨fun ⟨h1, h2, h3, h4⟩ => ⟨h1, h2, h3, ?_⟩, fun ⟨h1, h2, h3, h4⟩ => ⟨h1, h2, h3, ?_⟩⟩
  · by_cases h5 : w % 64 = 0
    · exact fun i hi => bit_out (by omega)
    · rcases h4 with h4 | h4
      · exact absurd h4 h5
      · rw [← top_last hw h1 h3 h5, Nat.shiftRight_eq_div_pow]
        exact_mod_cast h4
  · by_cases h5 : w % 64 = 0
    · exact Or.inl h5
    · have := (top_last hw h1 h3 h5).2 h4
      rw [Nat.shiftRight_eq_div_pow] at this
      exact Or.inr (by exact_mod_cast this)

theorem Wd.of {l : List Int} (h : Wd l) : ∃ ws, l = W ws ∧ Below 18446744073709551616 ws := W_of fun x hx => ⟨(h x hx).1, by have := (h x hx).2; omega⟩

theorem specOk_ev {w : Int} {l : List Int} (hw : Wd l) (R : Nat → Bool → Prop) : Ev (fun n => spec_BitsOk.c n w l (R n)) ↔ Ev (fun n => R n (bitsOk w l)) := by
  obtain ⟨ws, rfl, hB⟩ := hw.of
  have hiff := bitsOk_W (w := w) hB
  refine Ev.suc.trans ?_
  simp (disch := omega) only [spec_BitsOk.c, spec_BitsOk.w, l1In_ev, Ev.iteI, Bool.not_eq_false', Bool.not_eq_true', decide_eq_true_eq, decide_eq_false_iff_not, W_len]
  by_cases h1 : 1 ≤ w ∧ w ≤ 4096
  · rw [if_pos h1, wrap64 (x := w + 63) (by omega) (by omega), tdivP (by omega), wrap64 (by omega) (by omega)]
    by_cases h2 : (ws.length : Int) = (w + 63) / 64
    · obtain ⟨b, hb, kk⟩ := specOk_lp hB (by omega) (w := w) (64 * ws.length - w.toNat) w.toNat (by omega)
      have e : ((w.toNat : Nat) : Int) = w := by omega
      rw [e] at kk
      rw [if_neg (by omega), kk, Ev.s1 R, Ev.s1 R]
      have : b = bitsOk w (W ws) := by
        rw [Bool.eq_iff_iff, hb, hiff]
        exact ⟨fun h => ⟨h1.1, h1.2, h2, fun i hi => h i (by omega)⟩, fun h i hi => h.2.2.2 i (by omega)⟩
      rw [← this]
      cases b <;> rfl
    · rw [if_pos h2, Ev.s1 R]
      have : bitsOk w (W ws) = false := by
        rw [Bool.eq_false_iff]; intro h; exact h2 (hiff.1 h).2.2.1
      rw [this]
  · rw [if_neg h1, Ev.s1 R]
    have : bitsOk w (W ws) = false := by
      rw [Bool.eq_false_iff]; intro h; exact h1 ⟨(hiff.1 h).1, (hiff.1 h).2.1⟩
    rw [this]

theorem implOk_ev {w : Int} {l : List Int} (R : Nat → Bool → Prop) : Ev (fun n => impl_BitsOk.c n w l (R n)) ↔ Ev (fun n => R n (bitsOk w l)) := by
  refine Ev.suc.trans ?_
  simp only [impl_BitsOk.c, impl_BitsOk.w, inside_ev, Ev.iteI, Ev.andI, Bool.not_eq_false', Bool.not_eq_true', decide_eq_true_eq, decide_eq_false_iff_not, Ev.s1 R, and_self]
  by_cases h1 : 1 ≤ w ∧ w ≤ 4096
  · rw [if_pos h1]
    simp (disch := omega) only [wordsFor_ev, Ev.iteI, Bool.not_eq_true', decide_eq_false_iff_not, Ev.s1 R]
    by_cases h2 : (l.length : Int) = (w + 63) / 64
    · rw [if_neg (by omega)]
      simp (disch := omega) only [impl_BitsOk.j0, tmodP, Ev.iteI, decide_eq_false_iff_not, wrap64, grd_dec2, grd_dec, Ev.s1 R]
      by_cases h3 : w % 64 = 0
      · rw [if_neg (by omega), show bitsOk w l = true from by simp [bitsOk, h1, h2, h3]]
      · rw [if_pos h3]
        refine ev_arg ?_
        have e1 : ((l.length : Int) - 1).toNat = l.length - 1 := by omega
        have e2 : Nat.min (w % 64).toNat 64 = (w % 64).toNat := Nat.min_eq_left (by omega)
        rw [e1, e2, fdivP (Int.le_of_lt (Int.pow_pos (by decide)))]
        simp [bitsOk, h1, h2, h3]
    · rw [if_pos h2, show bitsOk w l = false from by simp [bitsOk, h2]]
  · rw [if_neg h1, show bitsOk w l = false from by
      rw [Bool.eq_false_iff]; intro h; rw [bitsOk, decide_eq_true_eq] at h; exact h1 ⟨h.1, h.2.1⟩]

end Go.Vsi
end

section
set_option linter.unusedVariables false
set_option linter.unusedSimpArgs false
set_option synthInstance.maxSize 4096
namespace Go.Vsi

def widthsOk : List Int → Bool
  | [] => true
  | x :: r => decide (1 ≤ x ∧ x ≤ 4096) && widthsOk r

def barOk (w : List Int) (b : tBar) : Bool :=
  decide (0 ≤ b.1 ∧ b.1 ≤ (w.length : Int) - 1) && if b.2.1 = -1 then bitsOk b.2.2.1 b.2.2.2 && decide (b.2.2.1 = rd w b.1.toNat)
  else decide (0 ≤ b.2.1 ∧ b.2.1 ≤ (w.length : Int) - 1) && decide (b.2.1 ≠ b.1) && decide (rd w b.2.1.toNat = rd w b.1.toNat) && decide (b.2.2.1 = 0) && decide ((b.2.2.2.length : Int) = 0)

def barsOk (w : List Int) : List tBar → Bool
  | [] => true
  | b :: r => barOk w b && barsOk w r

def graphOk (w : List Int) (l : List tBar) : Bool := decide (w.length ≤ 200) && decide (l.length ≤ 1000) && widthsOk w && barsOk w l

theorem barsOk_all {w : List Int} : ∀ {l : List tBar}, (!(l.any fun y => !(barOk w y))) = barsOk w l
  | [] => rfl
  | b :: r => by rw [List.any_cons, Bool.not_or, Bool.not_not, barsOk_all, barsOk]

theorem barsOk_mem {w : List Int} {y : tBar} : ∀ {l : List tBar}, barsOk w l = true → y ∈ l → barOk w y = true
  | [], _, h => by cases h
  | b :: r, h, hy => by
    rw [barsOk, Bool.and_eq_true] at h
    rcases List.mem_cons.1 hy with rfl | hy
    · exact h.1
    · exact barsOk_mem h.2 hy


theorem barOk_ev {w : List Int} {y : tBar} (hw : w.length ≤ 1099511627776) (R : Nat → Bool → Prop) :
    Ev (fun n => impl_barOk.c n w y.1 y.2.1 y.2.2.1 y.2.2.2 (R n)) ↔ Ev (fun n => R n (barOk w y)) := by
  refine Ev.suc.trans ?_
  simp (disch := omega) only [impl_barOk.c, impl_barOk.w, wrap64, inside_ev, Ev.iteI, implOk_ev, Bool.not_eq_true', decide_eq_true_eq, decide_eq_false_iff_not, Ev.s1 R, barOk]
  by_cases h1 : 0 ≤ y.1 ∧ y.1 ≤ (w.length : Int) - 1
  rotate_left
  · rw [if_pos h1]; simp [h1]
  rw [if_neg (fun h => h h1)]
  by_cases h2 : y.2.1 = -1
  · rw [if_pos h2, if_pos h2]
    by_cases h3 : bitsOk y.2.2.1 y.2.2.2 = true
    · rw [if_pos h3]
      simp (disch := omega) only [grd_dec2, Ev.s1 R]
      simp [h1, h3]
    · rw [if_neg h3]; simp [h3]
  rw [if_neg h2, if_neg h2]
  by_cases h3 : 0 ≤ y.2.1 ∧ y.2.1 ≤ (w.length : Int) - 1
  rotate_left
  · rw [if_neg h3]; simp [h3]
  rw [if_pos h3]
  by_cases h4 : y.2.1 = y.1
  · rw [if_neg (fun h => h h4)]; simp [h4]
  rw [if_pos h4]
  simp (disch := omega) only [grd_dec2, Ev.iteI, decide_eq_true_eq, Ev.s1 R]
  by_cases h5 : rd w y.2.1.toNat = rd w y.1.toNat
  rotate_left
  · rw [if_neg h5]; simp [h5]
  rw [if_pos h5]
  by_cases h6 : y.2.2.1 = 0
  · rw [if_pos h6]; simp [h1, h3, h4, h5, h6]
  · rw [if_neg h6]; simp [h6]

theorem graph1_ev {w : List Int} {bs : List tBar} {y : tBar} (hw : w.length ≤ 1099511627776) (R : Nat → Bool → Prop) :
    Ev (fun n => impl_GraphOk_1.c n y.1 y.2.1 y.2.2.1 y.2.2.2 (w, bs) (R n)) ↔ Ev (fun n => R n (!(barOk w y))) := by
  refine Ev.suc.trans ?_
  simp only [impl_GraphOk_1.c, impl_GraphOk_1.w]
  rw [barOk_ev hw, Ev.s1 R]

theorem slices_IndexFunc_Bar__impl_GraphOk_1_lp {l : List tBar} {w : List Int} {bs : List tBar} (hl : l.length ≤ 1099511627776) : ∀ (ys : List tBar) (x : Int), l.drop x.toNat = ys → 0 ≤ x → (∀ y : tBar, y ∈ ys → w.length ≤ 1099511627776) →
    ∀ (Kx : Nat → Prop) (Kr : Nat → Int → Prop),
    (Ev (fun n => slices_IndexFunc_Bar__impl_GraphOk_1.l2 n l (w, bs) l.length x (Kx n) (Kr n)) ↔ if firstIx (fun y => !(barOk w y)) ys x < 0 then Ev Kx else Ev (fun n => Kr n (firstIx (fun y => !(barOk w y)) ys x)))
  | [], x, h, h0, hy, Kx, Kr => by
    have := drop_nil h h0
    rw [firstIx, if_pos (by decide)]
    refine Ev.suc.trans ?_
    simp (disch := omega) only [slices_IndexFunc_Bar__impl_GraphOk_1.l2, slices_IndexFunc_Bar__impl_GraphOk_1.l2.b, if_neg, decide_eq_true_eq, Ev.s0 Kx]
  | y :: ys, x, h, h0, hy, Kx, Kr => by
    obtain ⟨e1, e2, e3⟩ := drop_cons h h0
    have hy0 := hy y List.mem_cons_self
    refine Ev.suc.trans ?_
    simp (disch := first | omega | omega) only [slices_IndexFunc_Bar__impl_GraphOk_1.l2, slices_IndexFunc_Bar__impl_GraphOk_1.l2.b, if_pos, decide_eq_true_eq, grd_dec2, e2, wrap64, Ev.s1 Kr, graph1_ev, Ev.iteI]
    rw [slices_IndexFunc_Bar__impl_GraphOk_1_lp hl ys (x + 1) e3 (by omega) (fun y hy' => hy y (List.mem_cons_of_mem _ hy')), Ev.s0 Kx, Ev.s1 Kr]
    simp only [firstIx, decide_eq_true_eq]
    split
    · rw [if_neg (by omega)]
    · rfl

theorem slices_IndexFunc_Bar__impl_GraphOk_1_ev {l : List tBar} {w : List Int} {bs : List tBar} (hl : l.length ≤ 1099511627776) (hy : ∀ y : tBar, y ∈ l → w.length ≤ 1099511627776) (R : Nat → Int → Prop) :
    Ev (fun n => slices_IndexFunc_Bar__impl_GraphOk_1.c n l (w, bs) (R n)) ↔ Ev (fun n => R n (firstIx (fun y => !(barOk w y)) l 0)) := by
  refine Ev.suc.trans ?_
  simp only [slices_IndexFunc_Bar__impl_GraphOk_1.c, slices_IndexFunc_Bar__impl_GraphOk_1.w]
  rw [slices_IndexFunc_Bar__impl_GraphOk_1_lp hl l 0 rfl (by omega) hy, Ev.s1 R, Ev.s1 R]
  split
  · rw [firstIx_neg (by omega) ‹_›]
  · rfl

theorem slices_ContainsFunc_Bar__impl_GraphOk_1_ev {l : List tBar} {w : List Int} {bs : List tBar} (hl : l.length ≤ 1099511627776) (hy : ∀ y : tBar, y ∈ l → w.length ≤ 1099511627776) (R : Nat → Bool → Prop) :
    Ev (fun n => slices_ContainsFunc_Bar__impl_GraphOk_1.c n l (w, bs) (R n)) ↔ Ev (fun n => R n (l.any fun y => !(barOk w y))) := by
  refine Ev.suc.trans ?_
  simp only [slices_ContainsFunc_Bar__impl_GraphOk_1.c, slices_ContainsFunc_Bar__impl_GraphOk_1.w]
  rw [slices_IndexFunc_Bar__impl_GraphOk_1_ev hl hy, Ev.s1 R, firstIx_any (by omega)]


theorem graphW_lp {w w' : List Int} {bs : List tBar} (hw : w.length ≤ 1099511627776) : ∀ (ys : List Int) (x : Int), w.drop x.toNat = ys → 0 ≤ x → ∀ (Kx : Nat → List Int → List tBar → Prop) (Kr : Nat → Bool → Prop),
    (Ev (fun n => impl_GraphOk.l4 n w w.length w' bs x (Kx n) (Kr n)) ↔ if widthsOk ys = true then Ev (fun n => Kx n w' bs) else Ev (fun n => Kr n false))
  | [], x, h, h0, Kx, Kr => by
    have := drop_nil h h0
    refine Ev.suc.trans ?_
    simp (disch := omega) only [impl_GraphOk.l4, impl_GraphOk.l4.b, if_neg, decide_eq_true_eq, Ev.s2 Kx, widthsOk, if_true]
  | y :: ys, x, h, h0, Kx, Kr => by
    obtain ⟨e1, e2, e3⟩ := drop_cons h h0
    refine Ev.suc.trans ?_
    simp (disch := omega) only [impl_GraphOk.l4, impl_GraphOk.l4.b, if_pos, decide_eq_true_eq, grd_dec2, e2, wrap64, inside_ev, Ev.iteI, Bool.not_eq_true', decide_eq_false_iff_not, Ev.s1 Kr]
    rw [graphW_lp hw ys (x + 1) e3 (by omega), Ev.s2 Kx, Ev.s1 Kr]
    simp only [widthsOk, Bool.and_eq_true, decide_eq_true_eq]
    by_cases h2 : 1 ≤ y ∧ y ≤ 4096
    · rw [if_neg (fun h => h h2)]; simp only [h2, and_self, true_and]
    · rw [if_pos h2, if_neg (fun h => h2 h.1)]

theorem graphOk_ev {w : List Int} {l : List tBar} (R : Nat → Bool → Prop) :
    Ev (fun n => impl_GraphOk.c n w l (R n)) ↔ Ev (fun n => R n (graphOk w l)) := by
  refine Ev.suc.trans ?_
  simp only [impl_GraphOk.c, impl_GraphOk.w, impl_GraphOk.j0, Ev.iteI, decide_eq_true_eq, decide_eq_false_iff_not, Bool.true_eq_false, if_true, Ev.s1 R, graphOk]
  by_cases h1 : w.length ≤ 200
  rotate_left
  · rw [if_neg (by omega)]; simp [h1]
  rw [if_pos (by omega)]
  by_cases h2 : l.length ≤ 1000
  rotate_left
  · rw [if_pos (by omega)]; simp [h2]
  rw [if_neg (by omega), graphW_lp (by omega) w 0 rfl (by omega), Ev.s1 R]
  simp only [h1, h2, decide_true, Bool.true_and]
  by_cases h3 : widthsOk w = true
  · rw [if_pos h3, slices_ContainsFunc_Bar__impl_GraphOk_1_ev (by omega) (fun y _ => by omega), Ev.s1 R, barsOk_all, h3, Bool.true_and]
  · rw [if_neg h3, show widthsOk w = false from by simpa using h3, Bool.false_and]


theorem noBits_ev {a : Int} {l : List Int} (R : Nat → Bool → Prop) :
    Ev (fun n => spec_l3NoBits.c n a l (R n)) ↔ Ev (fun n => R n (decide (a = 0) && decide ((l.length : Int) = 0))) := by
  refine Ev.suc.trans ?_
  simp only [spec_l3NoBits.c, spec_l3NoBits.w, Ev.iteI, decide_eq_true_eq, Ev.s1 R]
  split <;> simp_all

theorem graphSW_lp {w : List Int} {bs : List tBar} (hw : w.length ≤ 1099511627776) : ∀ (ys : List Int) (x : Int), w.drop x.toNat = ys → 0 ≤ x → ∀ (Kx : Nat → Int → List Int → List tBar → Prop) (Kr : Nat → Bool → Prop),
    (Ev (fun n => spec_GraphOk.l5 n w.length w bs x (Kx n) (Kr n)) ↔ if widthsOk ys = true then Ev (fun n => Kx n w.length w bs) else Ev (fun n => Kr n false))
  | [], x, h, h0, Kx, Kr => by
    have := drop_nil h h0
    refine Ev.suc.trans ?_
    simp (disch := omega) only [spec_GraphOk.l5, spec_GraphOk.l5.b, if_neg, decide_eq_true_eq, Ev.s3 Kx, widthsOk, if_true]
  | y :: ys, x, h, h0, Kx, Kr => by
    obtain ⟨e1, e2, e3⟩ := drop_cons h h0
    refine Ev.suc.trans ?_
    simp (disch := omega) only [spec_GraphOk.l5, spec_GraphOk.l5.b, if_pos, decide_eq_true_eq, grd_dec2, e2, wrap64, l1In_ev, Ev.iteI, Bool.not_eq_true', decide_eq_false_iff_not, Ev.s1 Kr]
    rw [graphSW_lp hw ys (x + 1) e3 (by omega), Ev.s3 Kx, Ev.s1 Kr]
    simp only [widthsOk, Bool.and_eq_true, decide_eq_true_eq]
    by_cases h2 : 1 ≤ y ∧ y ≤ 4096
    · rw [if_neg (fun h => h h2)]; simp only [h2, and_self, true_and]
    · rw [if_pos h2, if_neg (fun h => h2 h.1)]

theorem gq14_ev {a b c d e : Int} {f : Bool} {w l : List Int} {bs : List tBar} (R : Nat → Bool → Prop) (S : Nat → Int → Int → List Int → List tBar → Int → Int → Int → List Int → Prop) :
    Ev (fun n => spec_GraphOk.q14 n a b f w bs c d e l (R n) (S n)) ↔ if f = true then Ev (fun n => R n false) else Ev (fun n => S n a b w bs c d e l) := by
  refine Ev.suc.trans ?_
  simp only [spec_GraphOk.q14, spec_GraphOk.q14.b, Ev.iteI, Ev.s1 R, Ev.s8 S]

/-- What is left of a bar's test behind its ends. -/
def barRest (w : List Int) (a b c : Int) (l : List Int) : Bool :=
  if b = -1 then bitsOk c l && decide (c = rd w a.toNat) else decide (rd w b.toNat = rd w a.toNat) && decide (c = 0) && decide ((l.length : Int) = 0)

theorem gq15_ev {a b c d e : Int} {w l : List Int} {bs : List tBar} (hl : Wd l) (h1 : 0 ≤ c ∧ c ≤ (w.length : Int) - 1) (h2 : -1 ≤ d ∧ d ≤ (w.length : Int) - 1) (R : Nat → Bool → Prop) (S : Nat → Int → Int → List Int → List tBar → Prop) :
    Ev (fun n => spec_GraphOk.q15 n a b w bs c d e l (R n) (S n)) ↔ if barRest w c d e l = true then Ev (fun n => S n a b w bs) else Ev (fun n => R n false) := by
  refine Ev.suc.trans ?_
  by_cases h3 : d = -1
  · have s1 := fun (R : Nat → Bool → Prop) => specOk_ev (w := e) hl R
    simp (disch := omega) only [spec_GraphOk.q15, spec_GraphOk.q15.b, spec_GraphOk.j0, if_neg, if_pos, decide_eq_true_eq, s1, Ev.iteI, Bool.not_eq_false', grd_dec2, Bool.not_eq_true', decide_eq_false_iff_not, Ev.s1 R, Ev.s4 S, barRest, Bool.and_eq_true]
    by_cases h4 : bitsOk e l = true
    · rw [if_pos h4]; simp only [h4, true_and, ite_not]
    · rw [if_neg h4, if_neg (fun h => h4 h.1)]
  · simp (disch := omega) only [spec_GraphOk.q15, spec_GraphOk.q15.b, spec_GraphOk.j0, if_neg, if_pos, decide_eq_true_eq, noBits_ev, Ev.iteI, Bool.not_eq_false', grd_dec2, Bool.not_eq_true', decide_eq_false_iff_not, Ev.s1 R, Ev.s4 S, barRest, Bool.and_eq_true]
    by_cases h4 : rd w d.toNat = rd w c.toNat
    · rw [if_pos h4]
      by_cases h5 : (decide (e = 0) && decide ((l.length : Int) = 0)) = true
      · rw [h5]
        rw [Bool.and_eq_true, decide_eq_true_eq, decide_eq_true_eq] at h5
        simp [h4, h5]
      · rw [show (decide (e = 0) && decide ((l.length : Int) = 0)) = false from by simpa using h5]
        rw [Bool.and_eq_true, decide_eq_true_eq, decide_eq_true_eq] at h5
        rw [if_pos rfl, if_neg (fun h => h5 ⟨h.1.2, h.2⟩)]
    · rw [if_neg h4, if_neg (fun h => h4 h.1.1)]

theorem barOk_rest {w : List Int} {b : tBar} : barOk w b = (decide (0 ≤ b.1 ∧ b.1 ≤ (w.length : Int) - 1) && decide (-1 ≤ b.2.1 ∧ b.2.1 ≤ (w.length : Int) - 1) && decide (b.1 ≠ b.2.1) && barRest w b.1 b.2.1 b.2.2.1 b.2.2.2) := by
  unfold barOk barRest
  by_cases h1 : 0 ≤ b.1 ∧ b.1 ≤ (w.length : Int) - 1
  rotate_left
  · simp only [h1, decide_false, Bool.false_and]
  by_cases h2 : b.2.1 = -1
  · rw [if_pos h2, if_pos h2, decide_eq_true (p := -1 ≤ b.2.1 ∧ b.2.1 ≤ (w.length : Int) - 1) (by omega), decide_eq_true (p := b.1 ≠ b.2.1) (by omega)]
    simp only [Bool.and_true]
  · rw [if_neg h2, if_neg h2]
    by_cases h3 : 0 ≤ b.2.1 ∧ b.2.1 ≤ (w.length : Int) - 1
    · rw [decide_eq_true (p := -1 ≤ b.2.1 ∧ b.2.1 ≤ (w.length : Int) - 1) (by omega), decide_eq_true h3]
      simp only [h1, and_self, decide_true, Bool.true_and, Bool.and_assoc, ne_eq]
      by_cases h4 : b.2.1 = b.1
      · simp [h4]
      · have h4' : ¬ b.1 = b.2.1 := fun h => h4 h.symm
        simp [h4, h4']
    · rw [decide_eq_false h3, decide_eq_false (p := -1 ≤ b.2.1 ∧ b.2.1 ≤ (w.length : Int) - 1) (by omega)]
      simp

theorem graphSB_lp {w : List Int} {l : List tBar} (hw : w.length ≤ 1099511627776) (hl : l.length ≤ 1099511627776) : ∀ (ys : List tBar) (x : Int), l.drop x.toNat = ys → 0 ≤ x → (∀ y : tBar, y ∈ ys → Wd y.2.2.2) → ∀ (R : Nat → Bool → Prop),
    (Ev (fun n => spec_GraphOk.l10 n w.length x w l (R n true) (R n)) ↔ Ev (fun n => R n (barsOk w ys)))
  | [], x, h, h0, hy, R => by
    have := drop_nil h h0
    refine Ev.suc.trans ?_
    simp (disch := omega) only [spec_GraphOk.l10, spec_GraphOk.l10.b, if_neg, decide_eq_true_eq, Ev.s1 R, barsOk]
  | y :: ys, x, h, h0, hy, R => by
    obtain ⟨e1, e2, e3⟩ := drop_cons h h0
    have ih := fun (R : Nat → Bool → Prop) => graphSB_lp (w := w) hw hl ys (x + 1) e3 (by omega) (fun z hz => hy z (List.mem_cons_of_mem _ hz)) R
    refine Ev.suc.trans ?_
    rw [barsOk, barOk_rest]
    simp (disch := omega) only [spec_GraphOk.l10, spec_GraphOk.l10.b, if_pos, decide_eq_true_eq, grd_dec2, e2, wrap64, l1In_ev, Ev.iteI, Bool.not_eq_false']
    by_cases h1 : 0 ≤ y.1 ∧ y.1 ≤ (w.length : Int) - 1
    rotate_left
    · rw [if_neg h1, gq14_ev, if_pos rfl, Ev.s1 R]; simp [h1]
    rw [if_pos h1]
    by_cases h2 : -1 ≤ y.2.1 ∧ y.2.1 ≤ (w.length : Int) - 1
    rotate_left
    · rw [if_neg h2, gq14_ev, if_pos rfl, Ev.s1 R]; simp [h2]
    rw [if_pos h2, gq14_ev]
    simp only [decide_eq_true_eq]
    by_cases h3 : y.1 = y.2.1
    · rw [if_pos h3, Ev.s1 R]; simp [h3]
    rw [if_neg h3, gq15_ev (hy y List.mem_cons_self) h1 h2]
    simp (disch := omega) only [wrap64]
    rw [ih (fun n => R (n + 1)), Ev.s1 R, Ev.s1 R]
    simp only [h1, h2, h3, and_self, decide_true, Bool.true_and, ne_eq, not_false_eq_true]
    cases barRest w y.1 y.2.1 y.2.2.1 y.2.2.2 <;> simp

theorem graphOkS_ev {w : List Int} {l : List tBar} (hy : ∀ y : tBar, y ∈ l → Wd y.2.2.2) (R : Nat → Bool → Prop) :
    Ev (fun n => spec_GraphOk.c n w l (R n)) ↔ Ev (fun n => R n (graphOk w l)) := by
  refine Ev.suc.trans ?_
  simp only [spec_GraphOk.c, spec_GraphOk.w, spec_GraphOk.j1, Ev.iteI, decide_eq_true_eq, decide_eq_false_iff_not, Bool.true_eq_false, if_true, Ev.s1 R, graphOk]
  by_cases h1 : w.length ≤ 200
  rotate_left
  · rw [if_neg (by omega)]; simp [h1]
  rw [if_pos (by omega)]
  by_cases h2 : l.length ≤ 1000
  rotate_left
  · rw [if_pos (by omega)]; simp [h2]
  rw [if_neg (by omega), graphSW_lp (by omega) w 0 rfl (by omega), Ev.s1 R]
  simp only [h1, h2, decide_true, Bool.true_and]
  by_cases h3 : widthsOk w = true
  · rw [if_pos h3, graphSB_lp (by omega) (by omega) l 0 rfl (by omega) hy (fun n => R (n + 1)), Ev.s1 R, h3, Bool.true_and]
  · rw [if_neg h3, show widthsOk w = false from by simpa using h3, Bool.false_and]

end Go.Vsi
end

section
set_option linter.unusedVariables false
set_option linter.unusedSimpArgs false
set_option synthInstance.maxSize 4096
namespace Go.Vsi

def otherOf (ws : List tBits) (y : tBar) : tBits := if y.2.1 = -1 then y.2.2 else rd ws y.2.1.toNat

def sameIn (ws : List tBits) (y : tBar) : Bool := decide ((rd ws y.1.toNat).1 = (otherOf ws y).1 ∧ (rd ws y.1.toNat).2 = (otherOf ws y).2)

def noneSame (ws : List tBits) : List tBar → Bool
  | [] => true
  | y :: r => !(sameIn ws y) && noneSame ws r

def wordsGo (w : List Int) : List tBits → Int → Bool
  | [], _ => true
  | b :: r, x => bitsOk b.1 b.2 && decide (b.1 = rd w x.toNat) && wordsGo w r (x + 1)

def colourOk (w : List Int) (l : List tBar) (ws : List tBits) : Bool := graphOk w l && decide ((ws.length : Int) = w.length) && wordsGo w ws 0 && noneSame ws l

theorem noneSame_any {ws : List tBits} : ∀ {l : List tBar}, (!(l.any fun y => sameIn ws y)) = noneSame ws l
  | [] => rfl
  | b :: r => by rw [List.any_cons, Bool.not_or, noneSame_any, noneSame]

/-- A bar whose ends are among the words. -/
def InW (ws : List tBits) (y : tBar) : Prop := 0 ≤ y.1 ∧ y.1 < ws.length ∧ (y.2.1 = -1 ∨ 0 ≤ y.2.1 ∧ y.2.1 < ws.length) ∧ (rd ws y.1.toNat).2.length ≤ 1099511627776

theorem inW_of {w : List Int} {l : List tBar} {ws : List tBits} (h : graphOk w l = true) (hl : (ws.length : Int) = w.length) (hw : ∀ z ∈ ws, z.2.length ≤ 1099511627776) : ∀ y : tBar, y ∈ l → InW ws y := fun y hy => by
  rw [graphOk, Bool.and_eq_true] at h
  have hb := barsOk_mem h.2 hy
  rw [barOk_rest, Bool.and_eq_true, Bool.and_eq_true, Bool.and_eq_true, decide_eq_true_eq, decide_eq_true_eq] at hb
  have h1 := hb.1.1.1; have h2 := hb.1.1.2
  refine ⟨by omega, by omega, by omega, ?_⟩
  apply hw
  rw [rd, List.getD_eq_getElem?_getD, List.getElem?_eq_getElem (by omega)]
  exact List.getElem_mem _


theorem colour1_ev {ws : List tBits} {y : tBar} (h : InW ws y) (R : Nat → Bool → Prop) :
    Ev (fun n => impl_ColourOk_1.c n y.1 y.2.1 y.2.2.1 y.2.2.2 ws (R n)) ↔ Ev (fun n => R n (sameIn ws y)) := by
  obtain ⟨h1, h2, h3, h4⟩ := h
  refine Ev.suc.trans ?_
  simp (disch := omega) only [impl_ColourOk_1.c, impl_ColourOk_1.w, Ev.iteI, decide_eq_true_eq]
  by_cases h5 : y.2.1 = -1
  · rw [if_pos h5]
    simp (disch := omega) only [grd_dec2, same_ev, Ev.s1 R, sameIn, otherOf, h5, if_true]
  · rw [if_neg h5]
    simp (disch := omega) only [grd_dec2, same_ev, Ev.s1 R, sameIn, otherOf, h5, if_false]

theorem slices_IndexFunc_Bar__impl_ColourOk_1_lp {l : List tBar} {ws : List tBits} (hl : l.length ≤ 1099511627776) : ∀ (ys : List tBar) (x : Int), l.drop x.toNat = ys → 0 ≤ x → (∀ y : tBar, y ∈ ys → InW ws y) →
    ∀ (Kx : Nat → Prop) (Kr : Nat → Int → Prop),
    (Ev (fun n => slices_IndexFunc_Bar__impl_ColourOk_1.l2 n l ws l.length x (Kx n) (Kr n)) ↔ if firstIx (fun y => sameIn ws y) ys x < 0 then Ev Kx else Ev (fun n => Kr n (firstIx (fun y => sameIn ws y) ys x)))
  | [], x, h, h0, hy, Kx, Kr => by
    have := drop_nil h h0
    rw [firstIx, if_pos (by decide)]
    refine Ev.suc.trans ?_
    simp (disch := omega) only [slices_IndexFunc_Bar__impl_ColourOk_1.l2, slices_IndexFunc_Bar__impl_ColourOk_1.l2.b, if_neg, decide_eq_true_eq, Ev.s0 Kx]
  | y :: ys, x, h, h0, hy, Kx, Kr => by
    obtain ⟨e1, e2, e3⟩ := drop_cons h h0
    have hy0 := hy y List.mem_cons_self
    refine Ev.suc.trans ?_
    simp (disch := first | omega | assumption) only [slices_IndexFunc_Bar__impl_ColourOk_1.l2, slices_IndexFunc_Bar__impl_ColourOk_1.l2.b, if_pos, decide_eq_true_eq, grd_dec2, e2, wrap64, Ev.s1 Kr, colour1_ev, Ev.iteI]
    rw [slices_IndexFunc_Bar__impl_ColourOk_1_lp hl ys (x + 1) e3 (by omega) (fun y hy' => hy y (List.mem_cons_of_mem _ hy')), Ev.s0 Kx, Ev.s1 Kr]
    simp only [firstIx, decide_eq_true_eq]
    split
    · rw [if_neg (by omega)]
    · rfl

theorem slices_IndexFunc_Bar__impl_ColourOk_1_ev {l : List tBar} {ws : List tBits} (hl : l.length ≤ 1099511627776) (hy : ∀ y : tBar, y ∈ l → InW ws y) (R : Nat → Int → Prop) :
    Ev (fun n => slices_IndexFunc_Bar__impl_ColourOk_1.c n l ws (R n)) ↔ Ev (fun n => R n (firstIx (fun y => sameIn ws y) l 0)) := by
  refine Ev.suc.trans ?_
  simp only [slices_IndexFunc_Bar__impl_ColourOk_1.c, slices_IndexFunc_Bar__impl_ColourOk_1.w]
  rw [slices_IndexFunc_Bar__impl_ColourOk_1_lp hl l 0 rfl (by omega) hy, Ev.s1 R, Ev.s1 R]
  split
  · rw [firstIx_neg (by omega) ‹_›]
  · rfl

theorem slices_ContainsFunc_Bar__impl_ColourOk_1_ev {l : List tBar} {ws : List tBits} (hl : l.length ≤ 1099511627776) (hy : ∀ y : tBar, y ∈ l → InW ws y) (R : Nat → Bool → Prop) :
    Ev (fun n => slices_ContainsFunc_Bar__impl_ColourOk_1.c n l ws (R n)) ↔ Ev (fun n => R n (l.any fun y => sameIn ws y)) := by
  refine Ev.suc.trans ?_
  simp only [slices_ContainsFunc_Bar__impl_ColourOk_1.c, slices_ContainsFunc_Bar__impl_ColourOk_1.w]
  rw [slices_IndexFunc_Bar__impl_ColourOk_1_ev hl hy, Ev.s1 R, firstIx_any (by omega)]


theorem colourW_lp {w : List Int} {bs : List tBar} {ws ws' : List tBits} (hl : (ws.length : Int) = w.length) (hw : ws.length ≤ 1099511627776) : ∀ (ys : List tBits) (x : Int), ws.drop x.toNat = ys → 0 ≤ x → ∀ (Kx : Nat → List Int → List tBar → List tBits → Prop) (Kr : Nat → Bool → Prop),
    (Ev (fun n => impl_ColourOk.l4 n ws ws.length w bs ws' x (Kx n) (Kr n)) ↔ if wordsGo w ys x = true then Ev (fun n => Kx n w bs ws') else Ev (fun n => Kr n false))
  | [], x, h, h0, Kx, Kr => by
    have := drop_nil h h0
    refine Ev.suc.trans ?_
    simp (disch := omega) only [impl_ColourOk.l4, impl_ColourOk.l4.b, if_neg, decide_eq_true_eq, Ev.s3 Kx, wordsGo, if_true]
  | y :: ys, x, h, h0, Kx, Kr => by
    obtain ⟨e1, e2, e3⟩ := drop_cons h h0
    refine Ev.suc.trans ?_
    simp (disch := omega) only [impl_ColourOk.l4, impl_ColourOk.l4.b, if_pos, decide_eq_true_eq, grd_dec2, e2, wrap64, implOk_ev, Ev.iteI, Bool.not_eq_true', Bool.not_eq_false', decide_eq_false_iff_not, Ev.s1 Kr]
    rw [colourW_lp hl hw ys (x + 1) e3 (by omega), Ev.s3 Kx, Ev.s1 Kr]
    simp only [wordsGo, Bool.and_eq_true, decide_eq_true_eq]
    by_cases h1 : bitsOk y.1 y.2 = true
    · rw [if_pos h1]
      by_cases h2 : y.1 = rd w x.toNat
      · rw [if_neg (fun h => h h2)]; simp only [h1, ← h2, true_and]
      · rw [if_pos h2, if_neg (fun h => h2 h.1.2)]
    · rw [if_neg h1, if_neg (fun h => h1 h.1.1)]

theorem colourOk_ev {w : List Int} {l : List tBar} {ws : List tBits} (hz : ws.length ≤ 1099511627776) (hw : ∀ z ∈ ws, z.2.length ≤ 1099511627776) (R : Nat → Bool → Prop) :
    Ev (fun n => impl_ColourOk.c n w l ws (R n)) ↔ Ev (fun n => R n (colourOk w l ws)) := by
  refine Ev.suc.trans ?_
  simp only [impl_ColourOk.c, impl_ColourOk.w, impl_ColourOk.j0, graphOk_ev, Ev.iteI, Bool.not_eq_true', Bool.not_eq_false', decide_eq_true_eq, decide_eq_false_iff_not, if_true, Ev.s1 R, colourOk]
  by_cases h1 : graphOk w l = true
  rotate_left
  · rw [if_neg h1, show graphOk w l = false from by simpa using h1]; simp
  rw [if_pos h1]
  by_cases h2 : (ws.length : Int) = w.length
  rotate_left
  · rw [if_pos h2, decide_eq_false h2]; simp
  rw [if_neg (fun h => h h2), colourW_lp h2 hz ws 0 rfl (by omega), Ev.s1 R, decide_eq_true h2, h1]
  simp only [Bool.true_and]
  by_cases h3 : wordsGo w ws 0 = true
  · have hl : l.length ≤ 1099511627776 := by
      rw [graphOk, Bool.and_eq_true, Bool.and_eq_true, Bool.and_eq_true, decide_eq_true_eq, decide_eq_true_eq] at h1
      have := h1.1.1.2; omega
    rw [if_pos h3, slices_ContainsFunc_Bar__impl_ColourOk_1_ev hl (inW_of h1 h2 hw), Ev.s1 R, noneSame_any, h3, Bool.true_and]
  · rw [if_neg h3, show wordsGo w ws 0 = false from by simpa using h3, Bool.false_and]


theorem colourSW_lp {w : List Int} {bs : List tBar} {ws : List tBits} (hl : (ws.length : Int) = w.length) (hw : ws.length ≤ 1099511627776) : ∀ (ys : List tBits) (x : Int), ws.drop x.toNat = ys → 0 ≤ x → (∀ z ∈ ys, Wd z.2) → ∀ (Kx : Nat → List tBits → List Int → List tBar → Prop) (Kr : Nat → Bool → Prop),
    (Ev (fun n => spec_ColourOk.l4 n ws w bs x (Kx n) (Kr n)) ↔ if wordsGo w ys x = true then Ev (fun n => Kx n ws w bs) else Ev (fun n => Kr n false))
  | [], x, h, h0, hy, Kx, Kr => by
    have := drop_nil h h0
    refine Ev.suc.trans ?_
    simp (disch := omega) only [spec_ColourOk.l4, spec_ColourOk.l4.b, if_neg, decide_eq_true_eq, Ev.s3 Kx, wordsGo, if_true]
  | y :: ys, x, h, h0, hy, Kx, Kr => by
    obtain ⟨e1, e2, e3⟩ := drop_cons h h0
    have s1 := fun (R : Nat → Bool → Prop) => specOk_ev (w := y.1) (hy y List.mem_cons_self) R
    refine Ev.suc.trans ?_
    simp (disch := omega) only [spec_ColourOk.l4, spec_ColourOk.l4.b, if_pos, decide_eq_true_eq, grd_dec2, e2, wrap64, s1, Ev.iteI, Bool.not_eq_true', Bool.not_eq_false', decide_eq_false_iff_not, Ev.s1 Kr]
    rw [colourSW_lp hl hw ys (x + 1) e3 (by omega) (fun z hz => hy z (List.mem_cons_of_mem _ hz)), Ev.s3 Kx, Ev.s1 Kr]
    simp only [wordsGo, Bool.and_eq_true, decide_eq_true_eq]
    by_cases h1 : bitsOk y.1 y.2 = true
    · rw [if_pos h1]
      by_cases h2 : y.1 = rd w x.toNat
      · rw [if_neg (fun h => h h2)]; simp only [h1, ← h2, true_and]
      · rw [if_pos h2, if_neg (fun h => h2 h.1.2)]
    · rw [if_neg h1, if_neg (fun h => h1 h.1.1)]

theorem colourSB_lp {w : List Int} {l : List tBar} {ws : List tBits} (hl : l.length ≤ 1099511627776) : ∀ (ys : List tBar) (x : Int), l.drop x.toNat = ys → 0 ≤ x → (∀ y ∈ ys, InW ws y) → ∀ (R : Nat → Bool → Prop),
    (Ev (fun n => spec_ColourOk.l9 n ws w l x (R n true) (R n)) ↔ Ev (fun n => R n (noneSame ws ys)))
  | [], x, h, h0, hy, R => by
    have := drop_nil h h0
    refine Ev.suc.trans ?_
    simp (disch := omega) only [spec_ColourOk.l9, spec_ColourOk.l9.b, if_neg, decide_eq_true_eq, Ev.s1 R, noneSame]
  | y :: ys, x, h, h0, hy, R => by
    obtain ⟨e1, e2, e3⟩ := drop_cons h h0
    obtain ⟨h1, h2, h3, h4⟩ := hy y List.mem_cons_self
    have ih := fun (R : Nat → Bool → Prop) => colourSB_lp (w := w) (ws := ws) hl ys (x + 1) e3 (by omega) (fun z hz => hy z (List.mem_cons_of_mem _ hz)) R
    have fin : Ev (fun n => spec_ColourOk.j3 (R (n + 1)) (fun x65q => spec_ColourOk.l9 n ws w l x65q (R (n + 1) true) (R (n + 1))) n ws x l (otherOf ws y).1 (otherOf ws y).2) ↔ Ev (fun n => R n (noneSame ws (y :: ys))) := by
      simp (disch := omega) only [spec_ColourOk.j3, grd_dec2, e2, wrap64, sSame_ev, Ev.iteI, decide_eq_true_eq, Ev.s1 R]
      rw [ih (fun n => R (n + 1)), Ev.s1 R, noneSame, sameIn]
      by_cases h5 : (rd ws y.1.toNat).1 = (otherOf ws y).1 ∧ (rd ws y.1.toNat).2 = (otherOf ws y).2
      · rw [if_pos h5, decide_eq_true h5]; exact Iff.rfl
      · rw [if_neg h5, decide_eq_false h5]; exact Iff.rfl
    refine Ev.suc.trans (Iff.trans ?_ fin)
    simp (disch := omega) only [spec_ColourOk.l9, spec_ColourOk.l9.b, if_pos, decide_eq_true_eq, grd_dec2, e2]
    by_cases h5 : y.2.1 = -1
    · simp (disch := omega) only [if_neg, otherOf, h5, if_true]
    · simp (disch := omega) only [if_pos, grd_dec2, otherOf, h5, if_false]

theorem colourOkS_ev {w : List Int} {l : List tBar} {ws : List tBits} (hz : ws.length ≤ 1099511627776) (hw : ∀ z ∈ ws, z.2.length ≤ 1099511627776) (hd : ∀ z ∈ ws, Wd z.2) (hy : ∀ y : tBar, y ∈ l → Wd y.2.2.2) (R : Nat → Bool → Prop) :
    Ev (fun n => spec_ColourOk.c n w l ws (R n)) ↔ Ev (fun n => R n (colourOk w l ws)) := by
  have s1 := fun (R : Nat → Bool → Prop) => graphOkS_ev (w := w) hy R
  refine Ev.suc.trans ?_
  simp only [spec_ColourOk.c, spec_ColourOk.w, s1, Ev.iteI, Bool.not_eq_true', Bool.not_eq_false', decide_eq_true_eq, decide_eq_false_iff_not, if_true, Ev.s1 R, colourOk]
  by_cases h1 : graphOk w l = true
  rotate_left
  · rw [if_neg h1, show graphOk w l = false from by simpa using h1]; simp
  rw [if_pos h1]
  by_cases h2 : (ws.length : Int) = w.length
  rotate_left
  · rw [if_pos h2, decide_eq_false h2]; simp
  rw [if_neg (fun h => h h2), colourSW_lp h2 hz ws 0 rfl (by omega) hd, Ev.s1 R, decide_eq_true h2, h1]
  simp only [Bool.true_and]
  by_cases h3 : wordsGo w ws 0 = true
  · have hl : l.length ≤ 1099511627776 := by
      rw [graphOk, Bool.and_eq_true, Bool.and_eq_true, Bool.and_eq_true, decide_eq_true_eq, decide_eq_true_eq] at h1
      have := h1.1.1.2; omega
    rw [if_pos h3, colourSB_lp hl l 0 rfl (by omega) (inW_of h1 h2 hw) (fun n => R (n + 1)), Ev.s1 R, h3, Bool.true_and]
  · rw [if_neg h3, show wordsGo w ws 0 = false from by simpa using h3, Bool.false_and]

end Go.Vsi
end

section
set_option linter.unusedVariables false
set_option linter.unusedSimpArgs false
set_option synthInstance.maxSize 4096
namespace Go.Vsi
theorem laws_szUint64S_ev {l : List Int} {left : Int} (h0 : -1 ≤ left) (h1 : left ≤ 1099511627776) (hl : l.length ≤ 9223372036854775807) (R : Nat → Int → Prop) :
    Ev (fun n => laws_szUint64S.c n l left (R n)) ↔ Ev (fun n => R n (szr left l.length)) := by
  refine Ev.suc.trans ?_
  simp (disch := omega) only [laws_szUint64S.c, laws_szUint64S.w, wrap64, Ev.iteI, decide_eq_true_eq, Ev.s1 R]
  unfold szr; split <;> split <;> first | rfl | omega | exact ev_arg (by omega)

theorem laws_szBits_ev {a0 : Int} {a1 : List Int} {left : Int} (h0 : -1 ≤ left) (h1 : left ≤ 1099511627776) (h2 : a1.length ≤ 9223372036854775807) (R : Nat → Int → Prop) :
    Ev (fun n => laws_szBits.c n a0 a1 left (R n)) ↔ Ev (fun n => R n (szr left (a1.length))) := by

  refine Ev.suc.trans ?_
  simp (disch := first | assumption | omega | exact szr_m1 (by assumption) | exact szr_le' (by assumption) (by assumption)) only [laws_szBits.c, laws_szBits.w, laws_szUint64S_ev, wrap64, Ev.iteI, decide_eq_true_eq, Ev.s1 R]
  unfold szr; (repeat' split) <;> first | rfl | (exfalso; omega) | exact ev_arg (by omega)

theorem laws_szBar_ev {a0 : Int} {a1 : Int} {a2 : Int} {a3 : List Int} {left : Int} (h0 : -1 ≤ left) (h1 : left ≤ 1099511627776) (h2 : a3.length ≤ 9223372036854775807) (R : Nat → Int → Prop) :
    Ev (fun n => laws_szBar.c n a0 a1 a2 a3 left (R n)) ↔ Ev (fun n => R n (szr left (a3.length))) := by

  refine Ev.suc.trans ?_
  simp (disch := first | assumption | omega | exact szr_m1 (by assumption) | exact szr_le' (by assumption) (by assumption)) only [laws_szBar.c, laws_szBar.w, laws_szBits_ev, wrap64, Ev.iteI, decide_eq_true_eq, Ev.s1 R]
  unfold szr; (repeat' split) <;> first | rfl | (exfalso; omega) | exact ev_arg (by omega)

def sBarS : List tBar → Nat
  | [] => 0
  | y :: r => y.2.2.2.length + sBarS r

theorem sBarS_mem {y : tBar} : ∀ {l : List tBar}, y ∈ l → y.2.2.2.length ≤ sBarS l
  | [], h => absurd h List.not_mem_nil
  | a :: l, h => by
    rw [sBarS]
    rcases List.mem_cons.1 h with rfl | h
    · omega
    · have := sBarS_mem h; omega

abbrev yBar : Ty := .prod (.int .i64) (.prod (.int .i64) (.prod (.int .i64) (.sl 0 (.int .u64))))

theorem laws_szBarS_lp {l : List tBar} (hl : l.length ≤ 9223372036854775807) : ∀ (ys : List tBar) (x left : Int), l.drop x.toNat = ys → 0 ≤ x → 0 ≤ left → left ≤ 1099511627776 → (∀ y ∈ ys, y.2.2.2.length ≤ 9223372036854775807) → ∀ (Kx : Nat → Int → Prop),
    (Ev (fun n => laws_szBarS.l5 n l left x (Kx n) (Kx n)) ↔ Ev (fun n => Kx n (szr left (sBarS ys))))
  | [], x, left, h, h0, h1, h2, hy, Kx => by
    have := drop_nil h h0
    refine Ev.suc.trans ?_
    simp (disch := omega) only [laws_szBarS.l5, laws_szBarS.l5.b, if_neg, decide_eq_true_eq, Ev.s1 Kx, sBarS]
    refine ev_arg ?_; unfold szr; split <;> omega
  | y :: ys, x, left, h, h0, h1, h2, hy, Kx => by
    obtain ⟨e1, e2, e3⟩ := drop_cons h h0
    have hy0 := hy y List.mem_cons_self
    refine Ev.suc.trans ?_
    simp (disch := first | assumption | exact hy0.1 | exact hy0.2 | exact hy0.2.1 | exact hy0.2.2 | exact hy0.2.2.1 | exact hy0.2.2.2 | omega) only [laws_szBarS.l5, laws_szBarS.l5.b, if_pos, decide_eq_true_eq, Ev.s1 Kx, grd_dec2, e2, laws_szBar_ev, Ev.iteI, wrap64]
    split
    · rename_i hs
      rw [sBarS, szr_back hs]
    · rename_i hs
      rw [laws_szBarS_lp hl ys (x + 1) _ e3 (by omega) (by omega) (szr_le' (by omega) h2) (fun y hy' => hy y (List.mem_cons_of_mem _ hy')), sBarS, szr_two h1 hs, Ev.s1 Kx]

theorem laws_szBarS_ev {l : List tBar} {left : Int} (h0 : -1 ≤ left) (h1 : left ≤ 1099511627776) (hl : l.length ≤ 9223372036854775807) (hy : ∀ y ∈ l, y.2.2.2.length ≤ 9223372036854775807) (R : Nat → Int → Prop) :
    Ev (fun n => laws_szBarS.c n l left (R n)) ↔ Ev (fun n => R n (szr left (l.length + sBarS l))) := by
  refine Ev.suc.trans ?_
  simp (disch := omega) only [laws_szBarS.c, laws_szBarS.w, wrap64, Ev.iteI, decide_eq_true_eq, Ev.s1 R]
  split
  · refine ev_arg ?_; unfold szr; split <;> omega
  · rw [laws_szBarS_lp hl l 0 _ rfl (by omega) (by omega) (by omega) hy, Ev.s1 R]
    refine ev_arg ?_; unfold szr; (repeat' split) <;> omega

theorem laws_toUint64S_lp {l : List Int} (hl : l.length ≤ 1048576) : ∀ (ys : List Int) (x : Int) (o : List Int), l.drop x.toNat = ys → 0 ≤ x → o.length = l.length → ∀ (Kx : Nat → List Int → Prop),
    (Ev (fun n => laws_toUint64S.l3 n l x o (Kx n)) ↔ Ev (fun n => Kx n (o.take x.toNat ++ ys)))
  | [], x, o, h, h0, ho, Kx => by
    have := drop_nil h h0
    refine Ev.suc.trans ?_
    simp (disch := omega) only [laws_toUint64S.l3, laws_toUint64S.l3.b, if_neg, decide_eq_true_eq, Ev.s1 Kx]
    rw [List.take_of_length_le (by omega), List.append_nil]
  | y :: ys, x, o, h, h0, ho, Kx => by
    obtain ⟨e1, e2, e3⟩ := drop_cons h h0
    refine Ev.suc.trans ?_
    simp (disch := omega) only [laws_toUint64S.l3, laws_toUint64S.l3.b, if_pos, decide_eq_true_eq, Ev.s1 Kx, grd_dec2, e2, wrap64]
    rw [laws_toUint64S_lp hl ys (x + 1) _ e3 (by omega) (by simpa using ho), Ev.s1 Kx, take_set (by omega) (by omega), List.append_assoc]
    rfl

theorem laws_toUint64S_ev {l : List Int} (h : l.length ≤ 1048576) (R : Nat → List Int → Prop) :
    Ev (fun n => laws_toUint64S.c n l (R n)) ↔ Ev (fun n => R n l) := by
  refine Ev.suc.trans ?_
  simp (disch := omega) only [laws_toUint64S.c, laws_toUint64S.w, grd_dec2, decide_true, Bool.and_true]
  rw [laws_toUint64S_lp (by omega) l 0 _ rfl (by omega) (by simp), Ev.s1 R]
  simp

theorem laws_toBits_ev {a0 : Int} {a1 : List Int} (h : a1.length ≤ 1048576) (R : Nat → Int → List Int → Prop) :
    Ev (fun n => laws_toBits.c n a0 a1 (R n)) ↔ Ev (fun n => R n a0 a1) := by
  refine Ev.suc.trans ?_
  simp (disch := omega) only [laws_toBits.c, laws_toBits.w, laws_toUint64S_ev, Ev.s2 R]

theorem laws_toBar_ev {a0 : Int} {a1 : Int} {a2 : Int} {a3 : List Int} (h : a3.length ≤ 1048576) (R : Nat → Int → Int → Int → List Int → Prop) :
    Ev (fun n => laws_toBar.c n a0 a1 a2 a3 (R n)) ↔ Ev (fun n => R n a0 a1 a2 a3) := by
  refine Ev.suc.trans ?_
  simp (disch := omega) only [laws_toBar.c, laws_toBar.w, laws_toBits_ev, Ev.s4 R]

theorem laws_toBarS_lp {l : List tBar} (hl : l.length ≤ 1048576) : ∀ (ys : List tBar) (x : Int) (o : List tBar), l.drop x.toNat = ys → 0 ≤ x → o.length = l.length → (∀ y ∈ ys, y.2.2.2.length ≤ 1048576) → ∀ (Kx : Nat → List tBar → Prop),
    (Ev (fun n => laws_toBarS.l3 n l x o (Kx n)) ↔ Ev (fun n => Kx n (o.take x.toNat ++ ys)))
  | [], x, o, h, h0, ho, hy, Kx => by
    have := drop_nil h h0
    refine Ev.suc.trans ?_
    simp (disch := omega) only [laws_toBarS.l3, laws_toBarS.l3.b, if_neg, decide_eq_true_eq, Ev.s1 Kx]
    rw [List.take_of_length_le (by omega), List.append_nil]
  | y :: ys, x, o, h, h0, ho, hy, Kx => by
    obtain ⟨e1, e2, e3⟩ := drop_cons h h0
    have hy0 := hy y List.mem_cons_self
    refine Ev.suc.trans ?_
    simp (disch := omega) only [laws_toBarS.l3, laws_toBarS.l3.b, if_pos, decide_eq_true_eq, Ev.s1 Kx, grd_dec2, e2, wrap64, laws_toBar_ev]
    rw [laws_toBarS_lp hl ys (x + 1) _ e3 (by omega) (by simpa using ho) (fun y hy' => hy y (List.mem_cons_of_mem _ hy')), Ev.s1 Kx, take_set (by omega) (by omega), List.append_assoc]
    rfl

theorem laws_toBarS_ev {l : List tBar} (h : (l.length + sBarS l) ≤ 1048576) (R : Nat → List tBar → Prop) :
    Ev (fun n => laws_toBarS.c n l (R n)) ↔ Ev (fun n => R n l) := by
  refine Ev.suc.trans ?_
  simp (disch := omega) only [laws_toBarS.c, laws_toBarS.w, grd_dec2, decide_true, Bool.and_true]
  rw [laws_toBarS_lp (by omega) l 0 _ rfl (by omega) (by simp) (fun y hy => by have := sBarS_mem hy; omega), Ev.s1 R]
  simp

theorem laws_eqUint64S_lp {l l' : List Int} (hl : l.length ≤ 1099511627776) (hll : l.length = l'.length) : ∀ (ys ys' : List Int) (x : Int), l.drop x.toNat = ys → l'.drop x.toNat = ys' → 0 ≤ x → ∀ (Kx : Nat → Prop) (Kr : Nat → Bool → Prop),
    (Ev (fun n => laws_eqUint64S.l4 n l l' x (Kx n) (Kr n)) ↔ if ys = ys' then Ev Kx else Ev (fun n => Kr n false))
  | [], [], x, h, h', h0, Kx, Kr => by
    have := drop_nil h h0
    refine Ev.suc.trans ?_
    simp (disch := omega) only [laws_eqUint64S.l4, laws_eqUint64S.l4.b, if_neg, decide_eq_true_eq, Ev.s0 Kx, if_true]
  | [], y' :: ys', x, h, h', h0, Kx, Kr => by
    have := drop_nil h h0; have := (drop_cons h' h0).1; omega
  | y :: ys, [], x, h, h', h0, Kx, Kr => by
    have := drop_nil h' h0; have := (drop_cons h h0).1; omega
  | y :: ys, y' :: ys', x, h, h', h0, Kx, Kr => by
    obtain ⟨e1, e2, e3⟩ := drop_cons h h0
    obtain ⟨_, f2, f3⟩ := drop_cons h' h0
    refine Ev.suc.trans ?_
    simp (disch := first | assumption | exact hy0.1 | exact hy0.2 | exact hy0.2.1 | exact hy0.2.2 | exact hy0.2.2.1 | exact hy0.2.2.2 | omega) only [laws_eqUint64S.l4, laws_eqUint64S.l4.b, if_pos, decide_eq_true_eq, Ev.s0 Kx, Ev.s1 Kr, grd_dec2, e2, f2, wrap64, Ev.iteI, Bool.not_eq_true', decide_eq_false_iff_not]
    rw [laws_eqUint64S_lp hl hll ys ys' (x + 1) e3 f3 (by omega), Ev.s0 Kx, Ev.s1 Kr]
    simp only [List.cons.injEq, Prod.ext_iff]
    (repeat' split) <;> first | rfl | (exfalso; simp_all; done)

theorem laws_eqUint64S_ev {l l' : List Int} (hl : l.length ≤ 1099511627776) (R : Nat → Bool → Prop) :
    Ev (fun n => laws_eqUint64S.c n l l' (R n)) ↔ Ev (fun n => R n (decide (l = l'))) := by
  refine Ev.suc.trans ?_
  simp (disch := omega) only [laws_eqUint64S.c, laws_eqUint64S.w, Ev.iteI, Bool.not_eq_true', decide_eq_false_iff_not, Ev.s1 R]
  split
  · rw [decide_eq_false]; intro e; subst e; omega
  · rw [laws_eqUint64S_lp hl (by omega) l l' 0 rfl rfl (by omega), Ev.s1 R, Ev.s1 R]
    split
    · rw [decide_eq_true ‹_›]
    · rw [decide_eq_false ‹_›]

theorem laws_eqBits_ev {a0 b0 : Int} {a1 b1 : List Int} (h0 : a1.length ≤ 1099511627776) (R : Nat → Bool → Prop) :
    Ev (fun n => laws_eqBits.c n a0 a1 b0 b1 (R n)) ↔ Ev (fun n => R n (decide (a0 = b0 ∧ a1 = b1))) := by
  refine Ev.suc.trans ?_
  simp (disch := first | assumption | omega) only [laws_eqBits.c, laws_eqBits.w, laws_eqUint64S_ev, Ev.iteI, Bool.not_eq_true', decide_eq_false_iff_not, beq_eq_false_iff_ne, ne_eq, Ev.s1 R]
  (repeat' split) <;> first | (rw [decide_eq_false]; simp_all; done) | (rw [decide_eq_true]; simp_all; done)

theorem laws_eqBar_ev {a0 b0 : Int} {a1 b1 : Int} {a2 b2 : Int} {a3 b3 : List Int} (h0 : a3.length ≤ 1099511627776) (R : Nat → Bool → Prop) :
    Ev (fun n => laws_eqBar.c n a0 a1 a2 a3 b0 b1 b2 b3 (R n)) ↔ Ev (fun n => R n (decide (a0 = b0 ∧ a1 = b1 ∧ a2 = b2 ∧ a3 = b3))) := by
  refine Ev.suc.trans ?_
  simp (disch := first | assumption | omega) only [laws_eqBar.c, laws_eqBar.w, laws_eqBits_ev, Ev.iteI, Bool.not_eq_true', decide_eq_false_iff_not, beq_eq_false_iff_ne, ne_eq, Ev.s1 R]
  (repeat' split) <;> first | (rw [decide_eq_false]; simp_all; done) | (rw [decide_eq_true]; simp_all; done)

theorem laws_eqBarS_lp {l l' : List tBar} (hl : l.length ≤ 1099511627776) (hll : l.length = l'.length) : ∀ (ys ys' : List tBar) (x : Int), l.drop x.toNat = ys → l'.drop x.toNat = ys' → 0 ≤ x → (∀ y ∈ ys, y.2.2.2.length ≤ 1099511627776) → ∀ (Kx : Nat → Prop) (Kr : Nat → Bool → Prop),
    (Ev (fun n => laws_eqBarS.l4 n l l' x (Kx n) (Kr n)) ↔ if ys = ys' then Ev Kx else Ev (fun n => Kr n false))
  | [], [], x, h, h', h0, hy, Kx, Kr => by
    have := drop_nil h h0
    refine Ev.suc.trans ?_
    simp (disch := omega) only [laws_eqBarS.l4, laws_eqBarS.l4.b, if_neg, decide_eq_true_eq, Ev.s0 Kx, if_true]
  | [], y' :: ys', x, h, h', h0, hy, Kx, Kr => by
    have := drop_nil h h0; have := (drop_cons h' h0).1; omega
  | y :: ys, [], x, h, h', h0, hy, Kx, Kr => by
    have := drop_nil h' h0; have := (drop_cons h h0).1; omega
  | y :: ys, y' :: ys', x, h, h', h0, hy, Kx, Kr => by
    obtain ⟨e1, e2, e3⟩ := drop_cons h h0
    obtain ⟨_, f2, f3⟩ := drop_cons h' h0
    have hy0 := hy y List.mem_cons_self
    refine Ev.suc.trans ?_
    simp (disch := first | assumption | exact hy0.1 | exact hy0.2 | exact hy0.2.1 | exact hy0.2.2 | exact hy0.2.2.1 | exact hy0.2.2.2 | omega) only [laws_eqBarS.l4, laws_eqBarS.l4.b, if_pos, decide_eq_true_eq, Ev.s0 Kx, Ev.s1 Kr, grd_dec2, e2, f2, wrap64, laws_eqBar_ev, Ev.iteI, Bool.not_eq_true', decide_eq_false_iff_not]
    rw [laws_eqBarS_lp hl hll ys ys' (x + 1) e3 f3 (by omega) (fun y hy' => hy y (List.mem_cons_of_mem _ hy')), Ev.s0 Kx, Ev.s1 Kr]
    simp only [List.cons.injEq, Prod.ext_iff]
    (repeat' split) <;> first | rfl | (exfalso; simp_all; done)

theorem laws_eqBarS_ev {l l' : List tBar} (hl : l.length ≤ 1099511627776) (hy : ∀ y ∈ l, y.2.2.2.length ≤ 1099511627776) (R : Nat → Bool → Prop) :
    Ev (fun n => laws_eqBarS.c n l l' (R n)) ↔ Ev (fun n => R n (decide (l = l'))) := by
  refine Ev.suc.trans ?_
  simp (disch := omega) only [laws_eqBarS.c, laws_eqBarS.w, Ev.iteI, Bool.not_eq_true', decide_eq_false_iff_not, Ev.s1 R]
  split
  · rw [decide_eq_false]; intro e; subst e; omega
  · rw [laws_eqBarS_lp hl (by omega) l l' 0 rfl rfl (by omega) hy, Ev.s1 R, Ev.s1 R]
    split
    · rw [decide_eq_true ‹_›]
    · rw [decide_eq_false ‹_›]

theorem eqBarS_of {l : List tBar} (h : (l.length + sBarS l) ≤ 1099511627776) : ∀ y : tBar, y ∈ l → y.2.2.2.length ≤ 1099511627776 := by
  intro y hy
  have := sBarS_mem hy
  exact (by omega)

theorem laws_szInt64S_ev {l : List Int} {left : Int} (h0 : -1 ≤ left) (h1 : left ≤ 1099511627776) (hl : l.length ≤ 9223372036854775807) (R : Nat → Int → Prop) :
    Ev (fun n => laws_szInt64S.c n l left (R n)) ↔ Ev (fun n => R n (szr left l.length)) := by
  refine Ev.suc.trans ?_
  simp (disch := omega) only [laws_szInt64S.c, laws_szInt64S.w, wrap64, Ev.iteI, decide_eq_true_eq, Ev.s1 R]
  unfold szr; split <;> split <;> first | rfl | omega | exact ev_arg (by omega)

theorem laws_szGraph_ev {a0 : List Int} {a1 : List (Int × Int × Int × List (Int))} {left : Int} (h0 : -1 ≤ left) (h1 : left ≤ 1099511627776) (h2 : a0.length ≤ 9223372036854775807) (h3 : a1.length ≤ 9223372036854775807) (h4 : (∀ y : tBar, y ∈ a1 → y.2.2.2.length ≤ 9223372036854775807)) (R : Nat → Int → Prop) :
    Ev (fun n => laws_szGraph.c n a0 a1 left (R n)) ↔ Ev (fun n => R n (szr left (a0.length + (a1.length + sBarS a1)))) := by

  refine Ev.suc.trans ?_
  simp (disch := first | assumption | omega | exact szr_m1 (by assumption) | exact szr_le' (by assumption) (by assumption)) only [laws_szGraph.c, laws_szGraph.w, laws_szBarS_ev, laws_szInt64S_ev, wrap64, Ev.iteI, decide_eq_true_eq, Ev.s1 R]
  unfold szr; (repeat' split) <;> first | rfl | (exfalso; omega) | exact ev_arg (by omega)

def sBitsS : List tBits → Nat
  | [] => 0
  | y :: r => y.2.length + sBitsS r

theorem sBitsS_mem {y : tBits} : ∀ {l : List tBits}, y ∈ l → y.2.length ≤ sBitsS l
  | [], h => absurd h List.not_mem_nil
  | a :: l, h => by
    rw [sBitsS]
    rcases List.mem_cons.1 h with rfl | h
    · omega
    · have := sBitsS_mem h; omega

abbrev yBits : Ty := .prod (.int .i64) (.sl 0 (.int .u64))

theorem szBitsS_gd {l : List tBits} (h : Gd (.sl 0 yBits) l) : ∀ y : tBits, y ∈ l → y.2.length ≤ 9223372036854775807 := fun y hy => (h.2 y hy).2.1

theorem laws_szBitsS_lp {l : List tBits} (hl : l.length ≤ 9223372036854775807) : ∀ (ys : List tBits) (x left : Int), l.drop x.toNat = ys → 0 ≤ x → 0 ≤ left → left ≤ 1099511627776 → (∀ y ∈ ys, y.2.length ≤ 9223372036854775807) → ∀ (Kx : Nat → Int → Prop),
    (Ev (fun n => laws_szBitsS.l5 n l left x (Kx n) (Kx n)) ↔ Ev (fun n => Kx n (szr left (sBitsS ys))))
  | [], x, left, h, h0, h1, h2, hy, Kx => by
    have := drop_nil h h0
    refine Ev.suc.trans ?_
    simp (disch := omega) only [laws_szBitsS.l5, laws_szBitsS.l5.b, if_neg, decide_eq_true_eq, Ev.s1 Kx, sBitsS]
    refine ev_arg ?_; unfold szr; split <;> omega
  | y :: ys, x, left, h, h0, h1, h2, hy, Kx => by
    obtain ⟨e1, e2, e3⟩ := drop_cons h h0
    have hy0 := hy y List.mem_cons_self
    refine Ev.suc.trans ?_
    simp (disch := first | assumption | exact hy0.1 | exact hy0.2 | exact hy0.2.1 | exact hy0.2.2 | exact hy0.2.2.1 | exact hy0.2.2.2 | omega) only [laws_szBitsS.l5, laws_szBitsS.l5.b, if_pos, decide_eq_true_eq, Ev.s1 Kx, grd_dec2, e2, laws_szBits_ev, Ev.iteI, wrap64]
    split
    · rename_i hs
      rw [sBitsS, szr_back hs]
    · rename_i hs
      rw [laws_szBitsS_lp hl ys (x + 1) _ e3 (by omega) (by omega) (szr_le' (by omega) h2) (fun y hy' => hy y (List.mem_cons_of_mem _ hy')), sBitsS, szr_two h1 hs, Ev.s1 Kx]

theorem laws_szBitsS_ev {l : List tBits} {left : Int} (h0 : -1 ≤ left) (h1 : left ≤ 1099511627776) (hl : l.length ≤ 9223372036854775807) (hy : ∀ y ∈ l, y.2.length ≤ 9223372036854775807) (R : Nat → Int → Prop) :
    Ev (fun n => laws_szBitsS.c n l left (R n)) ↔ Ev (fun n => R n (szr left (l.length + sBitsS l))) := by
  refine Ev.suc.trans ?_
  simp (disch := omega) only [laws_szBitsS.c, laws_szBitsS.w, wrap64, Ev.iteI, decide_eq_true_eq, Ev.s1 R]
  split
  · refine ev_arg ?_; unfold szr; split <;> omega
  · rw [laws_szBitsS_lp hl l 0 _ rfl (by omega) (by omega) (by omega) hy, Ev.s1 R]
    refine ev_arg ?_; unfold szr; (repeat' split) <;> omega

theorem laws_toInt64S_lp {l : List Int} (hl : l.length ≤ 1048576) : ∀ (ys : List Int) (x : Int) (o : List Int), l.drop x.toNat = ys → 0 ≤ x → o.length = l.length → ∀ (Kx : Nat → List Int → Prop),
    (Ev (fun n => laws_toInt64S.l3 n l x o (Kx n)) ↔ Ev (fun n => Kx n (o.take x.toNat ++ ys)))
  | [], x, o, h, h0, ho, Kx => by
    have := drop_nil h h0
    refine Ev.suc.trans ?_
    simp (disch := omega) only [laws_toInt64S.l3, laws_toInt64S.l3.b, if_neg, decide_eq_true_eq, Ev.s1 Kx]
    rw [List.take_of_length_le (by omega), List.append_nil]
  | y :: ys, x, o, h, h0, ho, Kx => by
    obtain ⟨e1, e2, e3⟩ := drop_cons h h0
    refine Ev.suc.trans ?_
    simp (disch := omega) only [laws_toInt64S.l3, laws_toInt64S.l3.b, if_pos, decide_eq_true_eq, Ev.s1 Kx, grd_dec2, e2, wrap64]
    rw [laws_toInt64S_lp hl ys (x + 1) _ e3 (by omega) (by simpa using ho), Ev.s1 Kx, take_set (by omega) (by omega), List.append_assoc]
    rfl

theorem laws_toInt64S_ev {l : List Int} (h : l.length ≤ 1048576) (R : Nat → List Int → Prop) :
    Ev (fun n => laws_toInt64S.c n l (R n)) ↔ Ev (fun n => R n l) := by
  refine Ev.suc.trans ?_
  simp (disch := omega) only [laws_toInt64S.c, laws_toInt64S.w, grd_dec2, decide_true, Bool.and_true]
  rw [laws_toInt64S_lp (by omega) l 0 _ rfl (by omega) (by simp), Ev.s1 R]
  simp

theorem laws_toGraph_ev {a0 : List Int} {a1 : List (Int × Int × Int × List (Int))} (h : a0.length + (a1.length + sBarS a1) ≤ 1048576) (R : Nat → List Int → List (Int × Int × Int × List (Int)) → Prop) :
    Ev (fun n => laws_toGraph.c n a0 a1 (R n)) ↔ Ev (fun n => R n a0 a1) := by
  refine Ev.suc.trans ?_
  simp (disch := omega) only [laws_toGraph.c, laws_toGraph.w, laws_toBarS_ev, laws_toInt64S_ev, Ev.s2 R]

theorem laws_toBitsS_lp {l : List tBits} (hl : l.length ≤ 1048576) : ∀ (ys : List tBits) (x : Int) (o : List tBits), l.drop x.toNat = ys → 0 ≤ x → o.length = l.length → (∀ y ∈ ys, y.2.length ≤ 1048576) → ∀ (Kx : Nat → List tBits → Prop),
    (Ev (fun n => laws_toBitsS.l3 n l x o (Kx n)) ↔ Ev (fun n => Kx n (o.take x.toNat ++ ys)))
  | [], x, o, h, h0, ho, hy, Kx => by
    have := drop_nil h h0
    refine Ev.suc.trans ?_
    simp (disch := omega) only [laws_toBitsS.l3, laws_toBitsS.l3.b, if_neg, decide_eq_true_eq, Ev.s1 Kx]
    rw [List.take_of_length_le (by omega), List.append_nil]
  | y :: ys, x, o, h, h0, ho, hy, Kx => by
    obtain ⟨e1, e2, e3⟩ := drop_cons h h0
    have hy0 := hy y List.mem_cons_self
    refine Ev.suc.trans ?_
    simp (disch := omega) only [laws_toBitsS.l3, laws_toBitsS.l3.b, if_pos, decide_eq_true_eq, Ev.s1 Kx, grd_dec2, e2, wrap64, laws_toBits_ev]
    rw [laws_toBitsS_lp hl ys (x + 1) _ e3 (by omega) (by simpa using ho) (fun y hy' => hy y (List.mem_cons_of_mem _ hy')), Ev.s1 Kx, take_set (by omega) (by omega), List.append_assoc]
    rfl

theorem laws_toBitsS_ev {l : List tBits} (h : (l.length + sBitsS l) ≤ 1048576) (R : Nat → List tBits → Prop) :
    Ev (fun n => laws_toBitsS.c n l (R n)) ↔ Ev (fun n => R n l) := by
  refine Ev.suc.trans ?_
  simp (disch := omega) only [laws_toBitsS.c, laws_toBitsS.w, grd_dec2, decide_true, Bool.and_true]
  rw [laws_toBitsS_lp (by omega) l 0 _ rfl (by omega) (by simp) (fun y hy => by have := sBitsS_mem hy; omega), Ev.s1 R]
  simp

theorem laws_eqInt64S_lp {l l' : List Int} (hl : l.length ≤ 1099511627776) (hll : l.length = l'.length) : ∀ (ys ys' : List Int) (x : Int), l.drop x.toNat = ys → l'.drop x.toNat = ys' → 0 ≤ x → ∀ (Kx : Nat → Prop) (Kr : Nat → Bool → Prop),
    (Ev (fun n => laws_eqInt64S.l4 n l l' x (Kx n) (Kr n)) ↔ if ys = ys' then Ev Kx else Ev (fun n => Kr n false))
  | [], [], x, h, h', h0, Kx, Kr => by
    have := drop_nil h h0
    refine Ev.suc.trans ?_
    simp (disch := omega) only [laws_eqInt64S.l4, laws_eqInt64S.l4.b, if_neg, decide_eq_true_eq, Ev.s0 Kx, if_true]
  | [], y' :: ys', x, h, h', h0, Kx, Kr => by
    have := drop_nil h h0; have := (drop_cons h' h0).1; omega
  | y :: ys, [], x, h, h', h0, Kx, Kr => by
    have := drop_nil h' h0; have := (drop_cons h h0).1; omega
  | y :: ys, y' :: ys', x, h, h', h0, Kx, Kr => by
    obtain ⟨e1, e2, e3⟩ := drop_cons h h0
    obtain ⟨_, f2, f3⟩ := drop_cons h' h0
    refine Ev.suc.trans ?_
    simp (disch := first | assumption | exact hy0.1 | exact hy0.2 | exact hy0.2.1 | exact hy0.2.2 | exact hy0.2.2.1 | exact hy0.2.2.2 | omega) only [laws_eqInt64S.l4, laws_eqInt64S.l4.b, if_pos, decide_eq_true_eq, Ev.s0 Kx, Ev.s1 Kr, grd_dec2, e2, f2, wrap64, Ev.iteI, Bool.not_eq_true', decide_eq_false_iff_not]
    rw [laws_eqInt64S_lp hl hll ys ys' (x + 1) e3 f3 (by omega), Ev.s0 Kx, Ev.s1 Kr]
    simp only [List.cons.injEq, Prod.ext_iff]
    (repeat' split) <;> first | rfl | (exfalso; simp_all; done)

theorem laws_eqInt64S_ev {l l' : List Int} (hl : l.length ≤ 1099511627776) (R : Nat → Bool → Prop) :
    Ev (fun n => laws_eqInt64S.c n l l' (R n)) ↔ Ev (fun n => R n (decide (l = l'))) := by
  refine Ev.suc.trans ?_
  simp (disch := omega) only [laws_eqInt64S.c, laws_eqInt64S.w, Ev.iteI, Bool.not_eq_true', decide_eq_false_iff_not, Ev.s1 R]
  split
  · rw [decide_eq_false]; intro e; subst e; omega
  · rw [laws_eqInt64S_lp hl (by omega) l l' 0 rfl rfl (by omega), Ev.s1 R, Ev.s1 R]
    split
    · rw [decide_eq_true ‹_›]
    · rw [decide_eq_false ‹_›]

theorem laws_eqGraph_ev {a0 b0 : List Int} {a1 b1 : List (Int × Int × Int × List (Int))} (h0 : a0.length ≤ 1099511627776) (h1 : a1.length ≤ 1099511627776) (h2 : (∀ y : tBar, y ∈ a1 → y.2.2.2.length ≤ 1099511627776)) (R : Nat → Bool → Prop) :
    Ev (fun n => laws_eqGraph.c n a0 a1 b0 b1 (R n)) ↔ Ev (fun n => R n (decide (a0 = b0 ∧ a1 = b1))) := by
  refine Ev.suc.trans ?_
  simp (disch := first | assumption | omega) only [laws_eqGraph.c, laws_eqGraph.w, laws_eqBarS_ev, laws_eqInt64S_ev, Ev.iteI, Bool.not_eq_true', decide_eq_false_iff_not, beq_eq_false_iff_ne, ne_eq, Ev.s1 R]
  (repeat' split) <;> first | (rw [decide_eq_false]; simp_all; done) | (rw [decide_eq_true]; simp_all; done)

theorem laws_eqBitsS_lp {l l' : List tBits} (hl : l.length ≤ 1099511627776) (hll : l.length = l'.length) : ∀ (ys ys' : List tBits) (x : Int), l.drop x.toNat = ys → l'.drop x.toNat = ys' → 0 ≤ x → (∀ y ∈ ys, y.2.length ≤ 1099511627776) → ∀ (Kx : Nat → Prop) (Kr : Nat → Bool → Prop),
    (Ev (fun n => laws_eqBitsS.l4 n l l' x (Kx n) (Kr n)) ↔ if ys = ys' then Ev Kx else Ev (fun n => Kr n false))
  | [], [], x, h, h', h0, hy, Kx, Kr => by
    have := drop_nil h h0
    refine Ev.suc.trans ?_
    simp (disch := omega) only [laws_eqBitsS.l4, laws_eqBitsS.l4.b, if_neg, decide_eq_true_eq, Ev.s0 Kx, if_true]
  | [], y' :: ys', x, h, h', h0, hy, Kx, Kr => by
    have := drop_nil h h0; have := (drop_cons h' h0).1; omega
  | y :: ys, [], x, h, h', h0, hy, Kx, Kr => by
    have := drop_nil h' h0; have := (drop_cons h h0).1; omega
  | y :: ys, y' :: ys', x, h, h', h0, hy, Kx, Kr => by
    obtain ⟨e1, e2, e3⟩ := drop_cons h h0
    obtain ⟨_, f2, f3⟩ := drop_cons h' h0
    have hy0 := hy y List.mem_cons_self
    refine Ev.suc.trans ?_
    simp (disch := first | assumption | exact hy0.1 | exact hy0.2 | exact hy0.2.1 | exact hy0.2.2 | exact hy0.2.2.1 | exact hy0.2.2.2 | omega) only [laws_eqBitsS.l4, laws_eqBitsS.l4.b, if_pos, decide_eq_true_eq, Ev.s0 Kx, Ev.s1 Kr, grd_dec2, e2, f2, wrap64, laws_eqBits_ev, Ev.iteI, Bool.not_eq_true', decide_eq_false_iff_not]
    rw [laws_eqBitsS_lp hl hll ys ys' (x + 1) e3 f3 (by omega) (fun y hy' => hy y (List.mem_cons_of_mem _ hy')), Ev.s0 Kx, Ev.s1 Kr]
    simp only [List.cons.injEq, Prod.ext_iff]
    (repeat' split) <;> first | rfl | (exfalso; simp_all; done)

theorem laws_eqBitsS_ev {l l' : List tBits} (hl : l.length ≤ 1099511627776) (hy : ∀ y ∈ l, y.2.length ≤ 1099511627776) (R : Nat → Bool → Prop) :
    Ev (fun n => laws_eqBitsS.c n l l' (R n)) ↔ Ev (fun n => R n (decide (l = l'))) := by
  refine Ev.suc.trans ?_
  simp (disch := omega) only [laws_eqBitsS.c, laws_eqBitsS.w, Ev.iteI, Bool.not_eq_true', decide_eq_false_iff_not, Ev.s1 R]
  split
  · rw [decide_eq_false]; intro e; subst e; omega
  · rw [laws_eqBitsS_lp hl (by omega) l l' 0 rfl rfl (by omega) hy, Ev.s1 R, Ev.s1 R]
    split
    · rw [decide_eq_true ‹_›]
    · rw [decide_eq_false ‹_›]

theorem eqBitsS_of {l : List tBits} (h : (l.length + sBitsS l) ≤ 1099511627776) : ∀ y : tBits, y ∈ l → y.2.length ≤ 1099511627776 := by
  intro y hy
  have := sBitsS_mem hy
  exact (by omega)

end Go.Vsi
end

section
set_option linter.unusedVariables false
set_option linter.unusedSimpArgs false
set_option synthInstance.maxSize 4096
namespace Go.Vsi

theorem wd_of {l : List Int} (h : Gd (.sl 0 (.int .u64)) l) : Wd l := fun x hx => ⟨(h.2 x hx).1, (h.2 x hx).2⟩

theorem colourOk_law {w : List Int} {l : List tBar} {ws : List tBits} (hg : Gd (.prod (.sl 0 (.int .i64)) (.sl 0 yBar)) (w, l)) (hs : Gd (.sl 0 yBits) ws) (K : Bool → Prop) :
    Ev (fun n => laws_FnExactColourOk.c n w l ws K) ↔ K true := by
  have hw : Gd (.sl 0 (.int .i64)) w := hg.1
  have hl : Gd (.sl 0 yBar) l := hg.2
  refine Ev.suc.trans ?_
  simp only [laws_FnExactColourOk.c, laws_FnExactColourOk.w]
  rw [laws_szGraph_ev (by omega) (by omega) hw.1 hl.1 (fun y hy => (hl.2 y hy).2.2.2.1)]
  simp only [Ev.iteI, decide_eq_true_eq, Ev.k]
  by_cases z1 : ((w.length + (l.length + sBarS l) : Nat) : Int) ≤ 1048576
  · rw [szr_ok z1, if_neg (by omega), laws_szBitsS_ev (by omega) (by omega) hs.1 (szBitsS_gd hs)]
    simp only [Ev.iteI, decide_eq_true_eq, Ev.k]
    by_cases z2 : ((ws.length + sBitsS ws : Nat) : Int) ≤ 1048576 - ((w.length + (l.length + sBarS l) : Nat) : Int)
    · rw [szr_ok z2, if_neg (by omega)]
      have hq : ∀ z ∈ ws, z.2.length ≤ 1099511627776 := eqBitsS_of (by omega)
      have t1 := fun R => laws_toGraph_ev (a0 := w) (a1 := l) (by omega) R
      have t2 := fun R => laws_toBitsS_ev (l := ws) (by omega) R
      have s1 := fun R => colourOkS_ev (w := w) (l := l) (ws := ws) (by omega) hq (fun z hz => wd_of (hs.2 z hz).2) (fun y hy => wd_of (hl.2 y hy).2.2.2) R
      have s2 := fun R => colourOk_ev (w := w) (l := l) (ws := ws) (by omega) hq R
      have e1 := fun R => laws_eqGraph_ev (a0 := w) (a1 := l) (b0 := w) (b1 := l) (by omega) (by omega) (eqBarS_of (by omega)) R
      have e2 := fun R => laws_eqBitsS_ev (l := ws) (l' := ws) (by omega) hq R
      simp only [t1, t2, s1, s2, e1, e2, Ev.andI, beq_self_eq_true, and_self, decide_true, Bool.not_true, Bool.false_eq_true, if_false, if_true, Ev.k]
    · rw [szr_no z2, if_pos (by omega)]
  · rw [szr_no z1, if_pos (by omega)]

end Go.Vsi
end
