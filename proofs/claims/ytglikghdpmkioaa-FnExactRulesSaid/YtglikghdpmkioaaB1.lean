/- What the told functions answer. No statement is proved here. -/
import Derived.Test.YtglikghdpmkioaaA1

section
set_option linter.unusedVariables false
namespace Go.Vsi
def Ev (P : Nat → Prop) : Prop := ∃ N, ∀ n, N ≤ n → P n
theorem Ev.succ {P : Nat → Prop} : Ev (fun n => P (n + 1)) → Ev P
 | ⟨N, h⟩ => ⟨N + 1, fun n hn => by obtain ⟨m, rfl⟩ : ∃ m, n = m + 1 := ⟨n - 1, by omega⟩; exact h m (by omega)⟩
theorem Ev.shift {P : Nat → Prop} : Ev P → Ev (fun n => P (n + 1))
 | ⟨N, h⟩ => ⟨N, fun n hn => h (n + 1) (by omega)⟩
theorem Ev.and {P Q : Nat → Prop} : Ev P → Ev Q → Ev (fun n => P n ∧ Q n)
 | ⟨N, h⟩, ⟨M, g⟩ => ⟨max N M, fun n hn => ⟨h n (by omega), g n (by omega)⟩⟩
theorem Ev.const {p : Prop} (h : p) : Ev (fun _ => p) := ⟨0, fun _ _ => h⟩
theorem Ev.pos {c : Prop} [Decidable c] {P Q : Nat → Prop} (h : c) (h1 : Ev P) : Ev (fun n => if c then P n else Q n) := by
 simp only [if_pos h]; exact h1
theorem Ev.some {P : Nat → Prop} : Ev P → ∃ n, P n
 | ⟨N, h⟩ => ⟨N, h N (Nat.le_refl _)⟩
theorem wrap64 {x : Int} (h1 : -9223372036854775808 ≤ x) (h2 : x < 9223372036854775808) : IntKind.wrap .i64 x = x := by
 simp only [IntKind.wrap, IntKind.bits, IntKind.signed, Bool.true_and]
 split <;> simp_all <;> omega
theorem wrapU {x : Int} (h1 : 0 ≤ x) (h2 : x < 18446744073709551616) : IntKind.wrap .u64 x = x := by
 simp only [IntKind.wrap, IntKind.bits, IntKind.signed, Bool.false_and]
 simp; omega
theorem wrapUm (x : Int) : IntKind.wrap .u64 x = x % 18446744073709551616 := by
 simp only [IntKind.wrap, IntKind.bits, IntKind.signed, Bool.false_and]
 simp
theorem wrap8 {x : Int} (h1 : 0 ≤ x) (h2 : x < 256) : IntKind.wrap .u8 x = x := by
 simp only [IntKind.wrap, IntKind.bits, IntKind.signed, Bool.false_and]
 simp; omega
theorem tdivP {x m : Int} (h : 0 ≤ x) : Int.tdiv x m = x / m := Int.tdiv_eq_ediv_of_nonneg h
theorem tmodP {x m : Int} (h : 0 ≤ x) : Int.tmod x m = x % m := Int.tmod_eq_emod_of_nonneg h
theorem fdivP {x m : Int} (h : 0 ≤ m) : Int.fdiv x m = x / m := Int.fdiv_eq_ediv_of_nonneg x h
def W (ws : List Nat) : List Int := ws.map Int.ofNat
theorem W_len (ws : List Nat) : (W ws).length = ws.length := by simp [W]
theorem W_rd (ws : List Nat) (i : Nat) : rd (W ws) i = ((ws.getD i 0 : Nat) : Int) := by
 simp only [rd, W, List.getD_eq_getElem?_getD, List.getElem?_map]
 cases ws[i]? <;> rfl
theorem W_set (ws : List Nat) (i x : Nat) : List.set (W ws) i (x : Int) = W (ws.set i x) := by
 simp only [W, List.map_set]; rfl
theorem W_rep (n : Nat) : List.replicate n (0 : Int) = W (List.replicate n 0) := by simp [W]
def Below (m : Nat) (ws : List Nat) : Prop := ∀ x ∈ ws, x < m
theorem W_of {m : Nat} : ∀ {l : List Int}, (∀ x ∈ l, 0 ≤ x ∧ x < (m : Int)) → ∃ ws, l = W ws ∧ Below m ws
 | [], _ => ⟨[], rfl, by simp [Below]⟩
 | x :: l, h => by
  obtain ⟨ws, rfl, hb⟩ := W_of (l := l) fun y hy => h y (by simp [hy])
  have hx := h x (by simp)
  refine ⟨x.toNat :: ws, ?_, ?_⟩
  ·simp only [W, List.map_cons, List.cons.injEq, and_true]
   show x = (x.toNat : Int); omega
  ·intro y hy
   simp only [List.mem_cons] at hy
   rcases hy with rfl | hy
   ·omega
   ·exact hb y hy
theorem Below.getD {m : Nat} {ws : List Nat} (h : Below m ws) (hm : 0 < m) (i : Nat) : ws.getD i 0 < m := by
 rw [List.getD_eq_getElem?_getD]
 cases hw : ws[i]? with
 | none => exact hm
 | some y => exact h y (List.mem_of_getElem? hw)
theorem Below.set {m : Nat} {ws : List Nat} (h : Below m ws) {i x : Nat} (hx : x < m) : Below m (ws.set i x) := by
 intro y hy
 rcases List.mem_or_eq_of_mem_set hy with h' | rfl
 ·exact h y h'
 ·exact hx
theorem Below.app {m : Nat} {a b : List Nat} (ha : Below m a) (hb : Below m b) : Below m (a ++ b) := by
 intro y hy
 rcases List.mem_append.mp hy with h | h
 ·exact ha y h
 ·exact hb y h
theorem Below.rep {m n : Nat} (hm : 0 < m) : Below m (List.replicate n 0) := by
 intro y hy
 rw [List.eq_of_mem_replicate hy]; exact hm
theorem or_W {a b : Nat} (ha : a < 18446744073709551616) (hb : b < 18446744073709551616) : ibits .or .u64 (a : Int) (b : Int) = ((a ||| b : Nat) : Int) := by
 have hab : a ||| b < 2 ^ 64 := Nat.or_lt_two_pow ha hb
 show IntKind.wrap .u64 (((BitVec.ofInt 64 (a : Int) ||| BitVec.ofInt 64 (b : Int) : BitVec 64).toNat : Nat) : Int) = _
 rw [BitVec.toNat_or, BitVec.ofInt_natCast, BitVec.ofInt_natCast, BitVec.toNat_ofNat, BitVec.toNat_ofNat]
 rw [Nat.mod_eq_of_lt ha, Nat.mod_eq_of_lt hb]
 exact wrapU (by omega) (by omega)
theorem and_W {a b : Nat} (ha : a < 18446744073709551616) (hb : b < 18446744073709551616) : ibits .and .u64 (a : Int) (b : Int) = ((a &&& b : Nat) : Int) := by
 have hab : a &&& b < 2 ^ 64 := Nat.and_lt_two_pow a hb
 show IntKind.wrap .u64 (((BitVec.ofInt 64 (a : Int) &&& BitVec.ofInt 64 (b : Int) : BitVec 64).toNat : Nat) : Int) = _
 rw [BitVec.toNat_and, BitVec.ofInt_natCast, BitVec.ofInt_natCast, BitVec.toNat_ofNat, BitVec.toNat_ofNat]
 rw [Nat.mod_eq_of_lt ha, Nat.mod_eq_of_lt hb]
 exact wrapU (by omega) (by omega)
theorem shl_W (a k : Nat) (hk : k ≤ 64) : IntKind.wrap .u64 ((a : Int) * 2 ^ (Nat.min k 64)) = (((a <<< k) % 18446744073709551616 : Nat) : Int) := by
 rw [wrapUm, show Nat.min k 64 = k from Nat.min_eq_left hk, Nat.shiftLeft_eq]
 simp
theorem shr_W (a k : Nat) (hk : k ≤ 64) : Int.fdiv (a : Int) (2 ^ (Nat.min k 64)) = ((a >>> k : Nat) : Int) := by
 rw [fdivP (Int.le_of_lt (Int.pow_pos (by decide))), show Nat.min k 64 = k from Nat.min_eq_left hk, Nat.shiftRight_eq_div_pow]
 simp
def bit (ws : List Nat) (i : Nat) : Bool := (ws.getD (i / 64) 0).testBit (i % 64)
theorem bit_set {ws : List Nat} {k x : Nat} (hk : k < ws.length) (i : Nat) : bit (ws.set k x) i = if i / 64 = k then x.testBit (i % 64) else bit ws i := by
 simp only [bit, List.getD_eq_getElem?_getD, List.getElem?_set]
 by_cases h : i / 64 = k
 ·subst h; simp [hk]
 ·rw [if_neg (fun h' => h h'.symm), if_neg h]
theorem bit_out {ws : List Nat} {i : Nat} (h : 64 * ws.length ≤ i) : bit ws i = false := by
 have : ws.length ≤ i / 64 := by omega
 simp [bit, List.getD_eq_getElem?_getD, List.getElem?_eq_none this]
theorem bit_rep (n i : Nat) : bit (List.replicate n 0) i = false := by
 simp only [bit, List.getD_eq_getElem?_getD, List.getElem?_replicate]
 split <;> simp
theorem words_ext {a b : List Nat} (hl : a.length = b.length) (ha : Below 18446744073709551616 a) (hb : Below 18446744073709551616 b)
  (h : ∀ i, i < 64 * a.length → bit a i = bit b i) : a = b := by
 apply List.ext_getElem hl
 intro k h1 h2
 apply Nat.eq_of_testBit_eq
 intro j
 by_cases hj : j < 64
 ·have := h (64 * k + j) (by omega)
  have e1 : (64 * k + j) / 64 = k := by omega
  have e2 : (64 * k + j) % 64 = j := by omega
  simpa [bit, e1, e2, List.getD_eq_getElem?_getD, h1, h2] using this
 ·have p : ∀ x, x < 18446744073709551616 → x.testBit j = false := fun x hx =>
   Nat.testBit_lt_two_pow (Nat.lt_of_lt_of_le hx (Nat.pow_le_pow_right (n := 2) (by decide) (Nat.not_lt.mp hj)))
  rw [p _ (ha _ (List.getElem_mem h1)), p _ (hb _ (List.getElem_mem h2))]
end Go.Vsi
end

section
set_option linter.unusedVariables false
namespace Go.Vsi
theorem Ev.suc {P : Nat → Prop} : Ev P ↔ Ev (fun n => P (n + 1)) := ⟨Ev.shift, Ev.succ⟩
theorem Ev.s0 (R : Nat → Prop) : Ev (fun n => R (n + 1)) ↔ Ev (fun n => R n) := ⟨Ev.succ, Ev.shift⟩
theorem Ev.s1 {α : Type} (R : Nat → α → Prop) (a : α) : Ev (fun n => R (n + 1) a) ↔ Ev (fun n => R n a) := Ev.s0 (fun n => R n a)
theorem Ev.s2 {α β : Type} (R : Nat → α → β → Prop) (a : α) (b : β) : Ev (fun n => R (n + 1) a b) ↔ Ev (fun n => R n a b) := Ev.s0 (fun n => R n a b)
theorem Ev.s3 {α β γ : Type} (R : Nat → α → β → γ → Prop) (a : α) (b : β) (c : γ) : Ev (fun n => R (n + 1) a b c) ↔ Ev (fun n => R n a b c) := Ev.s0 (fun n => R n a b c)
theorem Ev.s4 {α β γ δ : Type} (R : Nat → α → β → γ → δ → Prop) (a : α) (b : β) (c : γ) (d : δ) : Ev (fun n => R (n + 1) a b c d) ↔ Ev (fun n => R n a b c d) := Ev.s0 (fun n => R n a b c d)
theorem Ev.s6 {α β γ δ ε ζ : Type} (R : Nat → α → β → γ → δ → ε → ζ → Prop) (a : α) (b : β) (c : γ) (d : δ) (e : ε) (f : ζ) : Ev (fun n => R (n + 1) a b c d e f) ↔ Ev (fun n => R n a b c d e f) := Ev.s0 (fun n => R n a b c d e f)
theorem Ev.s7 {α β γ δ ε ζ η : Type} (R : Nat → α → β → γ → δ → ε → ζ → η → Prop) (a : α) (b : β) (c : γ) (d : δ) (e : ε) (f : ζ) (g : η) : Ev (fun n => R (n + 1) a b c d e f g) ↔ Ev (fun n => R n a b c d e f g) := Ev.s0 (fun n => R n a b c d e f g)
theorem Ev.s8 {α β γ δ ε ζ η θ : Type} (R : Nat → α → β → γ → δ → ε → ζ → η → θ → Prop) (a : α) (b : β) (c : γ) (d : δ) (e : ε) (f : ζ) (g : η) (h : θ) : Ev (fun n => R (n + 1) a b c d e f g h) ↔ Ev (fun n => R n a b c d e f g h) := Ev.s0 (fun n => R n a b c d e f g h)
theorem Ev.s9 {α β γ δ ε ζ η θ ι : Type} (R : Nat → α → β → γ → δ → ε → ζ → η → θ → ι → Prop) (a : α) (b : β) (c : γ) (d : δ) (e : ε) (f : ζ) (g : η) (h : θ) (i : ι) : Ev (fun n => R (n + 1) a b c d e f g h i) ↔ Ev (fun n => R n a b c d e f g h i) := Ev.s0 (fun n => R n a b c d e f g h i)
theorem Ev.s10 {α β γ δ ε ζ η θ ι κ : Type} (R : Nat → α → β → γ → δ → ε → ζ → η → θ → ι → κ → Prop) (a : α) (b : β) (c : γ) (d : δ) (e : ε) (f : ζ) (g : η) (h : θ) (i : ι) (j : κ) : Ev (fun n => R (n + 1) a b c d e f g h i j) ↔ Ev (fun n => R n a b c d e f g h i j) := Ev.s0 (fun n => R n a b c d e f g h i j)
@[simp] theorem Ev.k {p : Prop} : Ev (fun _ => p) ↔ p := ⟨fun ⟨_, h⟩ => h _ (Nat.le_refl _), Ev.const⟩
@[simp] theorem Ev.iteI {c : Prop} [Decidable c] {P Q : Nat → Prop} : Ev (fun n => if c then P n else Q n) ↔ if c then Ev P else Ev Q := by
 by_cases h : c <;> simp only [h, if_true, if_false]
@[simp] theorem Ev.andI {P Q : Nat → Prop} : Ev (fun n => P n ∧ Q n) ↔ Ev P ∧ Ev Q :=
 ⟨fun ⟨N, h⟩ => ⟨⟨N, fun n hn => (h n hn).1⟩, ⟨N, fun n hn => (h n hn).2⟩⟩, fun h => Ev.and h.1 h.2⟩
theorem grd_dec {p : Prop} [Decidable p] {P : Prop} (h : p) : grd (decide p) P ↔ P := by rw [decide_eq_true h]; exact Iff.rfl
theorem grd_dec2 {p q : Prop} [Decidable p] [Decidable q] {P : Prop} (h : p ∧ q) : grd (decide p && decide q) P ↔ P := by rw [decide_eq_true h.1, decide_eq_true h.2]; exact Iff.rfl
theorem grd_dec3 {p q r : Prop} [Decidable p] [Decidable q] [Decidable r] {P : Prop} (h : p ∧ q ∧ r) : grd (decide p && decide q && decide r) P ↔ P := by rw [decide_eq_true h.1, decide_eq_true h.2.1, decide_eq_true h.2.2]; exact Iff.rfl
theorem grd_dec4' {p q r s : Prop} [Decidable p] [Decidable q] [Decidable r] [Decidable s] {P : Prop} (h : p ∧ q ∧ r ∧ s) : grd ((decide p && (decide q && decide r)) && decide s) P ↔ P := by rw [decide_eq_true h.1, decide_eq_true h.2.1, decide_eq_true h.2.2.1, decide_eq_true h.2.2.2]; exact Iff.rfl
theorem grd_not {p : Prop} [Decidable p] {P : Prop} (h : ¬ p) : grd (!(decide p)) P ↔ P := by rw [decide_eq_false h]; exact Iff.rfl
@[simp] theorem grd_true {P : Prop} : grd true P ↔ P := Iff.rfl
theorem drop_nil {α : Type} {l : List α} {x : Int} (h : l.drop x.toNat = []) (h0 : 0 ≤ x) : (l.length : Int) ≤ x := by
 have := List.drop_eq_nil_iff.1 h; omega
theorem drop_cons {α : Type} [Inhabited α] {l ys : List α} {x : Int} {y : α} (h : l.drop x.toNat = y :: ys) (h0 : 0 ≤ x) :
  x < (l.length : Int) ∧ rd l x.toNat = y ∧ l.drop (x + 1).toNat = ys := by
 have hl : x.toNat < l.length := by
  rcases Nat.lt_or_ge x.toNat l.length with h' | h'
  ·exact h'
  ·rw [List.drop_eq_nil_of_le h'] at h; cases h
 refine ⟨by omega, ?_, ?_⟩
 ·have := List.getElem?_drop (xs := l) (i := x.toNat) (j := 0)
  rw [h] at this
  simp only [List.getElem?_cons_zero, Nat.add_zero] at this
  simp [rd, List.getD_eq_getElem?_getD, ← this]
 ·rw [show (x + 1).toNat = x.toNat + 1 from by omega, ← List.drop_drop, h]; rfl
theorem drop_set {α : Type} {l ys : List α} {x : Int} {v : α} (h : l.drop (x + 1).toNat = ys) (h0 : 0 ≤ x) : (l.set x.toNat v).drop (x + 1).toNat = ys := by
 rw [List.drop_set_of_lt (by omega), h]
theorem take_set {α : Type} {l : List α} {x : Int} {v : α} (h0 : 0 ≤ x) (hx : x < (l.length : Int)) : (l.set x.toNat v).take (x + 1).toNat = l.take x.toNat ++ [v] := by
 have e : (x + 1).toNat = x.toNat + 1 := by omega
 have hl : x.toNat < l.length := by omega
 rw [e, List.take_succ_eq_append_getElem (by simpa using hl), List.take_set_of_le (by omega)]
 simp
theorem rd_set {α : Type} [Inhabited α] {l : List α} {i : Nat} {v : α} (h : i < l.length) : rd (l.set i v) i = v := by
 simp [rd, List.getD_eq_getElem?_getD, h]
theorem ev_arg {α : Type} {R : Nat → α → Prop} {a b : α} (h : a = b) : Ev (fun n => R n a) ↔ Ev (fun n => R n b) := by rw [h]
theorem ev_bool {R : Nat → Bool → Prop} {b : Bool} : (if b = true then Ev (fun n => R n true) else Ev (fun n => R n false)) ↔ Ev (fun n => R n b) := by cases b <;> simp
theorem ev_arg2 {α β : Type} {R : Nat → α → β → Prop} {a b : α} {c : β} (h : a = b) : Ev (fun n => R n a c) ↔ Ev (fun n => R n b c) := by rw [h]
theorem ev_arg3 {α β : Type} {R : Nat → α → β → Prop} {a b : α} {c d : β} (h : a = b) (h' : c = d) : Ev (fun n => R n a c) ↔ Ev (fun n => R n b d) := by rw [h, h']
def Gd : (t : Ty) → t.T → Prop
 | .int k, n => k.min ≤ n ∧ n ≤ k.max
 | .str, s => s.length ≤ 9223372036854775807
 | .sl _ t, l => l.length ≤ 9223372036854775807 ∧ ∀ y, y ∈ l → Gd t y
 | .prod a b, p => Gd a p.1 ∧ Gd b p.2
 | .bool, _ => True
 | .unit, _ => True
 | .ptr _ _, _ => True
def firstIx {α : Type} (p : α → Bool) : List α → Int → Int
 | [], _ => -1
 | y :: r, x => if p y = true then x else firstIx p r (x + 1)
theorem firstIx_neg {α : Type} {p : α → Bool} : ∀ {l : List α} {x : Int}, 0 ≤ x → firstIx p l x < 0 → firstIx p l x = -1
 | [], x, _, _ => rfl
 | y :: l, x, h0, h => by
  rw [firstIx] at h ⊢
  split
  ·rename_i hp; rw [if_pos hp] at h; omega
  ·rename_i hp; rw [if_neg hp] at h; exact firstIx_neg (by omega) h
theorem firstIx_any {α : Type} {p : α → Bool} : ∀ {l : List α} {x : Int}, 0 ≤ x → decide (firstIx p l x ≥ 0) = l.any p
 | [], x, _ => by simp [firstIx]
 | y :: l, x, h0 => by
  rw [firstIx, List.any_cons]
  by_cases hp : p y = true
  ·simp [hp, h0]
  ·rw [if_neg hp, firstIx_any (by omega)]
   simp only [Bool.not_eq_true] at hp
   simp [hp]
def szr (left : Int) (z : Nat) : Int := if left < z then -1 else left - z
theorem szr_neg {left : Int} {z : Nat} : szr left z < 0 ↔ left < z := by unfold szr; split <;> omega
theorem szr_ok {left : Int} {z : Nat} (h : (z : Int) ≤ left) : szr left z = left - z := by unfold szr; rw [if_neg (by omega)]
theorem szr_no {left : Int} {z : Nat} (h : ¬ (z : Int) ≤ left) : szr left z = -1 := by unfold szr; rw [if_pos (by omega)]
theorem szr_two {left : Int} {y z : Nat} (h : 0 ≤ left) (hy : ¬ szr left y < 0) : szr (szr left y) z = szr left (y + z) := by
 rw [szr_neg] at hy
 unfold szr; split <;> split <;> split <;> omega
theorem szr_back {left : Int} {y z : Nat} (h : szr left y < 0) : szr left (y + z) = -1 := by
 rw [szr_neg] at h; unfold szr; split <;> omega
theorem szr_m1 {left : Int} {z : Nat} (h : -1 ≤ left) : -1 ≤ szr left z := by unfold szr; split <;> omega
theorem szr_le' {left b : Int} {z : Nat} (h : -1 ≤ left) (h' : left ≤ b) : szr left z ≤ b := by unfold szr; split <;> omega
end Go.Vsi
end

section
set_option linter.unusedVariables false
set_option linter.unusedSimpArgs false
namespace Go.Vsi
structure Ok (w : Int) (ws : List Nat) : Prop where
 lo : 1 ≤ w
 hi : w ≤ 4096
 len : (ws.length : Int) = (w + 63) / 64
 words : Below 18446744073709551616 ws
 top : ∀ i : Nat, w ≤ i → bit ws i = false
def wnum (f : Nat → Bool) : Nat → Nat
 | 0 => 0
 | n + 1 => wnum f n ||| ((f n).toNat <<< n)
theorem toNat_testBit (b : Bool) (k : Nat) : b.toNat.testBit k = (decide (k = 0) && b) := by
 cases b
 ·simp
 ·cases k <;> simp [Nat.testBit_succ]
theorem wnum_bit (f : Nat → Bool) : ∀ (n j : Nat), (wnum f n).testBit j = (decide (j < n) && f j)
 | 0, j => by simp [wnum]
 | n + 1, j => by
  rw [wnum, Nat.testBit_or, wnum_bit f n, Nat.testBit_shiftLeft, toNat_testBit]
  by_cases h : j < n
  ·have h1 : j < n + 1 := by omega
   have h2 : ¬ n ≤ j := by omega
   simp [h, h1, h2]
  ·by_cases h3 : j = n
   ·subst h3; simp
   ·have h1 : ¬ j < n + 1 := by omega
    have h2 : ¬ j - n = 0 := by omega
    simp [h, h1, h2]
theorem wnum_lt (f : Nat → Bool) (n : Nat) : wnum f n < 2 ^ n := by
 apply Nat.lt_pow_two_of_testBit
 intro j hj
 rw [wnum_bit]
 have : ¬ j < n := by omega
 simp [this]
def pk (w : Nat) (f : Nat → Bool) : List Nat := (List.range ((w + 63) / 64)).map fun k => wnum (fun j => decide (64 * k + j < w) && f (64 * k + j)) 64
theorem pk_len (w : Nat) (f : Nat → Bool) : (pk w f).length = (w + 63) / 64 := by simp [pk]
theorem pk_getD (w : Nat) (f : Nat → Bool) {k : Nat} (h : k < (w + 63) / 64) : (pk w f).getD k 0 = wnum (fun j => decide (64 * k + j < w) && f (64 * k + j)) 64 := by
 rw [List.getD_eq_getElem?_getD, pk, List.getElem?_map, List.getElem?_range h]; rfl
theorem pk_bit (w : Nat) (f : Nat → Bool) (i : Nat) : bit (pk w f) i = (decide (i < w) && f i) := by
 by_cases h : i / 64 < (w + 63) / 64
 ·rw [bit, pk_getD w f h, wnum_bit, show 64 * (i / 64) + i % 64 = i from by omega]
  have : i % 64 < 64 := by omega
  simp [this]
 ·rw [bit_out (by rw [pk_len]; omega)]
  have : ¬ i < w := by omega
  simp [this]
theorem pk_below (w : Nat) (f : Nat → Bool) : Below 18446744073709551616 (pk w f) := by
 intro x hx
 rw [pk, List.mem_map] at hx
 obtain ⟨k, _, rfl⟩ := hx
 exact wnum_lt _ 64
theorem pk_ok {w : Nat} (f : Nat → Bool) (h1 : 1 ≤ w) (h2 : w ≤ 4096) : Ok w (pk w f) :=
 ⟨by omega, by omega, by rw [pk_len]; omega, pk_below w f, fun i hi => by
  rw [pk_bit]
  have : ¬ i < w := by omega
  simp [this]⟩
theorem pk_of {w : Nat} {ws : List Nat} {f : Nat → Bool} (h : Ok w ws) (hf : ∀ i, i < w → bit ws i = f i) : ws = pk w f := by
 refine words_ext (by rw [pk_len]; have := h.len; omega) h.words (pk_below w f) fun i _ => ?_
 rw [pk_bit]
 by_cases hi : i < w
 ·rw [hf i hi]; simp [hi]
 ·rw [h.top i (by omega)]; simp [hi]
def bl (w : Nat) (f : Nat → Bool) : List Int := (List.range w).map fun i => ((f i).toNat : Int)
theorem bl_len (w : Nat) (f : Nat → Bool) : (bl w f).length = w := by simp [bl]
theorem bl_rd {w : Nat} {f : Nat → Bool} {i : Nat} (h : i < w) : rd (bl w f) i = ((f i).toNat : Int) := by
 rw [rd, List.getD_eq_getElem?_getD, bl, List.getElem?_map, List.getElem?_range h]; rfl
theorem bl_ext {w : Nat} {f g : Nat → Bool} (h : ∀ i, i < w → f i = g i) : bl w f = bl w g := by
 rw [bl, bl]; refine List.map_congr_left fun i hi => ?_
 rw [h i (List.mem_range.1 hi)]
theorem bl_of {l : List Int} {w : Nat} {f : Nat → Bool} (hl : l.length = w) (h : ∀ i, i < w → rd l i = ((f i).toNat : Int)) : l = bl w f := by
 apply List.ext_getElem (by rw [hl, bl_len])
 intro i h1 h2
 have a := h i (by omega)
 have b := bl_rd (f := f) (show i < w by omega)
 rw [rd, List.getD_eq_getElem?_getD, List.getElem?_eq_getElem h1] at a
 rw [rd, List.getD_eq_getElem?_getD, List.getElem?_eq_getElem h2] at b
 simp only [Option.getD_some] at a b
 rw [a, b]
theorem bl_app (u v : Nat) (f g : Nat → Bool) : bl u f ++ bl v g = bl (u + v) (fun i => if i < u then f i else g (i - u)) := by
 refine bl_of (by simp [bl_len]) fun i hi => ?_
 rw [rd, List.getD_eq_getElem?_getD]
 by_cases h : i < u
 ·rw [List.getElem?_append_left (by rw [bl_len]; exact h), ← List.getD_eq_getElem?_getD]
  simp only [h, if_true]; exact bl_rd h
 ·rw [List.getElem?_append_right (by rw [bl_len]; omega), bl_len, ← List.getD_eq_getElem?_getD]
  simp only [h, if_false]; exact bl_rd (by omega)
theorem bl_drop (w m : Nat) (f : Nat → Bool) : (bl w f).drop m = bl (w - m) (fun i => f (m + i)) := by
 refine bl_of (by simp [bl_len]) fun i hi => ?_
 rw [rd, List.getD_eq_getElem?_getD, List.getElem?_drop, ← List.getD_eq_getElem?_getD]
 exact bl_rd (by omega)
theorem bl_take (w m : Nat) (f : Nat → Bool) (h : m ≤ w) : (bl w f).take m = bl m f := by
 refine bl_of (by simp [bl_len]; omega) fun i hi => ?_
 rw [rd, List.getD_eq_getElem?_getD, List.getElem?_take_of_lt hi, ← List.getD_eq_getElem?_getD]
 exact bl_rd (by omega)
theorem bl_one (b : Bool) : [((b.toNat : Nat) : Int)] = bl 1 (fun _ => b) := rfl
theorem bl_zero (f : Nat → Bool) : bl 0 f = [] := rfl
def cutW (ws : List Nat) (low v : Nat) : List Nat := pk v fun i => bit ws (low + i)
def overW (u : Nat) (hs : List Nat) (v : Nat) (ls : List Nat) : List Nat := pk (u + v) fun i => if i < v then bit ls i else bit hs (i - v)
def turnW (w : Nat) (ws : List Nat) (m : Nat) : List Nat := pk w fun i => bit ws ((i + (w - m % w)) % w)
def repW (w : Nat) (ws : List Nat) (r : Nat) : List Nat := pk (r * w) fun i => bit ws (i % w)
def widenW (w : Nat) (ws : List Nat) (n : Nat) (s : Bool) : List Nat := pk (w + n) fun i => if i < w then bit ws i else s && bit ws (w - 1)
end Go.Vsi
end

section
set_option linter.unusedVariables false
set_option linter.unusedSimpArgs false
set_option synthInstance.maxSize 4096
namespace Go.Vsi
end Go.Vsi
end

section
set_option linter.unusedVariables false
set_option linter.unusedSimpArgs false
set_option synthInstance.maxSize 4096
namespace Go.Vsi
def Wd (l : List Int) : Prop := ∀ x ∈ l, 0 ≤ x ∧ x ≤ 18446744073709551615
def bitsOk (w : Int) (l : List Int) : Bool := decide (1 ≤ w ∧ w ≤ 4096 ∧ (l.length : Int) = (w + 63) / 64 ∧ (w % 64 = 0 ∨ rd l (l.length - 1) / 2 ^ (w % 64).toNat = 0))
theorem bit_div {x j : Nat} : x / 2 ^ j % 2 = (x.testBit j).toNat := by
 rw [Nat.testBit, Nat.shiftRight_eq_div_pow, Nat.one_and_eq_mod_two]
 rcases Nat.mod_two_eq_zero_or_one (x / 2 ^ j) with h | h <;> simp [h]
theorem l1In_ev {a b c : Int} (R : Nat → Bool → Prop) : Ev (fun n => spec_l1In.c n a b c (R n)) ↔ Ev (fun n => R n (decide (b ≤ a ∧ a ≤ c))) := by
 refine Ev.suc.trans ?_
 simp only [spec_l1In.c, spec_l1In.w, Ev.iteI, decide_eq_true_eq, Ev.s1 R, ge_iff_le]
 split
 ·refine ev_arg ?_; rw [decide_eq_decide]; omega
 ·refine ev_arg ?_; symm; rw [decide_eq_false_iff_not]; omega
theorem inside_ev {a b c : Int} (R : Nat → Bool → Prop) : Ev (fun n => impl_inside.c n a b c (R n)) ↔ Ev (fun n => R n (decide (b ≤ a ∧ a ≤ c))) := by
 refine Ev.suc.trans ?_
 simp only [impl_inside.c, impl_inside.w, Ev.iteI, decide_eq_true_eq, Ev.s1 R, ge_iff_le]
 split
 ·refine ev_arg ?_; rw [decide_eq_decide]; omega
 ·refine ev_arg ?_; symm; rw [decide_eq_false_iff_not]; omega
theorem wordsFor_ev {a : Int} (h0 : 0 ≤ a) (h1 : a ≤ 1000000000) (R : Nat → Int → Prop) : Ev (fun n => impl_wordsFor.c n a (R n)) ↔ Ev (fun n => R n ((a + 63) / 64)) := by
 refine Ev.suc.trans ?_
 simp (disch := omega) only [impl_wordsFor.c, impl_wordsFor.w, wrap64, tdivP, Ev.s1 R]
theorem l1Bit_ev {ws : List Nat} (hw : Below 18446744073709551616 ws) {k : Nat} (hk : k < 64 * ws.length) (hl : ws.length ≤ 4096) {w : Int} (R : Nat → Int → Prop) :
  Ev (fun n => spec_l1Bit.c n w (W ws) k (R n)) ↔ Ev (fun n => R n ((bit ws k).toNat : Int)) := by
 refine Ev.suc.trans ?_
 have e : ibits .and .u64 ((ws.getD (k / 64) 0 >>> (k % 64) : Nat) : Int) 1 = (((bit ws k).toNat : Nat) : Int) := by
  have hx : ws.getD (k / 64) 0 >>> (k % 64) < 18446744073709551616 := by
   rw [Nat.shiftRight_eq_div_pow]; exact Nat.lt_of_le_of_lt (Nat.div_le_self _ _) (hw.getD (by decide) _)
  rw [show (1 : Int) = ((1 : Nat) : Int) from rfl, and_W hx (by decide), Nat.and_one_is_mod, Nat.shiftRight_eq_div_pow, bit_div]; rfl
 have e1 : Int.toNat ((k : Int) / 64) = k / 64 := by omega
 have e2 : Int.toNat ((k : Int) % 64) = k % 64 := by omega
 simp (disch := omega) only [spec_l1Bit.c, spec_l1Bit.w, W_len, tdivP, tmodP, wrap64, wrapU, grd_dec2, grd_dec, e1, e2, W_rd, shr_W, e]
 rw [wrap8 (by omega) (by cases bit ws k <;> simp), Ev.s1 R]
theorem specOk_lp {ws : List Nat} (hw : Below 18446744073709551616 ws) (hl : ws.length ≤ 4096) {w : Int} : ∀ (m k : Nat), k + m = 64 * ws.length → ∃ b : Bool, (b = true ↔ ∀ i, k ≤ i → bit ws i = false) ∧
  ∀ (Kx : Nat → Prop) (Kr : Nat → Bool → Prop), (Ev (fun n => spec_BitsOk.l4 n w (W ws) k (Kx n) (Kr n)) ↔ if b = true then Ev Kx else Ev (fun n => Kr n false))
 | 0, k, h => by
  refine ⟨true, ⟨fun _ i hi => bit_out (by omega), fun _ => rfl⟩, fun Kx Kr => ?_⟩
  refine Ev.suc.trans ?_
  simp (disch := omega) only [spec_BitsOk.l4, spec_BitsOk.l4.b, W_len, wrap64, if_neg, decide_eq_true_eq, Ev.s0 Kx, if_true]
 | m + 1, k, h => by
  obtain ⟨b, hb, kk⟩ := specOk_lp hw hl (w := w) m (k + 1) (by omega)
  refine ⟨b && !bit ws k, ?_, fun Kx Kr => ?_⟩
  ·simp only [Bool.and_eq_true, Bool.not_eq_true', hb]
   constructor
   ·rintro ⟨h1, h2⟩ i hi
    rcases Nat.lt_or_eq_of_le hi with h' | rfl
    ·exact h1 i h'
    ·exact h2
   ·exact fun h => ⟨fun i hi => h i (by omega), h k (Nat.le_refl _)⟩
  ·refine Ev.suc.trans ?_
   have e : ((k : Int) + 1) = ((k + 1 : Nat) : Int) := by omega
   simp (disch := omega) only [spec_BitsOk.l4, spec_BitsOk.l4.b, W_len, wrap64, if_pos, decide_eq_true_eq, l1Bit_ev hw _ hl, Ev.iteI, Bool.not_eq_true', decide_eq_false_iff_not, e, kk, Ev.s0 Kx, Ev.s1 Kr]
   cases bit ws k <;> simp
theorem top_last {w : Int} {ws : List Nat} (hw : Below 18446744073709551616 ws) (h1 : 1 ≤ w) (h2 : (ws.length : Int) = (w + 63) / 64) (hr : w % 64 ≠ 0) :
  ws.getD (ws.length - 1) 0 >>> (w % 64).toNat = 0 ↔ ∀ i : Nat, w ≤ i → bit ws i = false := by
 constructor
 ·intro h i hi
  by_cases ho : 64 * ws.length ≤ i
  ·exact bit_out ho
  ·have e1 : i / 64 = ws.length - 1 := by omega
   have := congrArg (fun y => Nat.testBit y (i % 64 - (w % 64).toNat)) h
   simp only [Nat.testBit_shiftRight, Nat.zero_testBit] at this
   rw [show (w % 64).toNat + (i % 64 - (w % 64).toNat) = i % 64 from by omega] at this
   rw [bit, e1]; exact this
 ·intro h
  apply Nat.eq_of_testBit_eq
  intro j
  rw [Nat.testBit_shiftRight, Nat.zero_testBit]
  by_cases hj : (w % 64).toNat + j < 64
  ·have := h (64 * (ws.length - 1) + ((w % 64).toNat + j)) (by omega)
   rw [bit, show (64 * (ws.length - 1) + ((w % 64).toNat + j)) / 64 = ws.length - 1 from by omega, show (64 * (ws.length - 1) + ((w % 64).toNat + j)) % 64 = (w % 64).toNat + j from by omega] at this
   exact this
  ·exact Nat.testBit_lt_two_pow (Nat.lt_of_lt_of_le (hw.getD (by decide) _) (Nat.pow_le_pow_right (n := 2) (by decide) (Nat.not_lt.mp hj)))
theorem bitsOk_W {w : Int} {ws : List Nat} (hw : Below 18446744073709551616 ws) : bitsOk w (W ws) = true ↔ 1 ≤ w ∧ w ≤ 4096 ∧ (ws.length : Int) = (w + 63) / 64 ∧ ∀ i : Nat, w ≤ i → bit ws i = false := by
 rw [bitsOk, decide_eq_true_eq, W_len, W_rd]
 refine ⟨fun ⟨h1, h2, h3, h4⟩ => ⟨h1, h2, h3, ?_⟩, fun ⟨h1, h2, h3, h4⟩ => ⟨h1, h2, h3, ?_⟩⟩
 ·by_cases h5 : w % 64 = 0
  ·exact fun i hi => bit_out (by omega)
  ·rcases h4 with h4 | h4
   ·exact absurd h4 h5
   ·rw [← top_last hw h1 h3 h5, Nat.shiftRight_eq_div_pow]
    exact_mod_cast h4
 ·by_cases h5 : w % 64 = 0
  ·exact Or.inl h5
  ·have := (top_last hw h1 h3 h5).2 h4
   rw [Nat.shiftRight_eq_div_pow] at this
   exact Or.inr (by exact_mod_cast this)
theorem Wd.of {l : List Int} (h : Wd l) : ∃ ws, l = W ws ∧ Below 18446744073709551616 ws := W_of fun x hx => ⟨(h x hx).1, by have := (h x hx).2; omega⟩
theorem specOk_ev {w : Int} {l : List Int} (hw : Wd l) (R : Nat → Bool → Prop) : Ev (fun n => spec_BitsOk.c n w l (R n)) ↔ Ev (fun n => R n (bitsOk w l)) := by
 obtain ⟨ws, rfl, hB⟩ := hw.of
 have hiff := bitsOk_W (w := w) hB
 refine Ev.suc.trans ?_
 simp (disch := omega) only [spec_BitsOk.c, spec_BitsOk.w, l1In_ev, Ev.iteI, Bool.not_eq_false', Bool.not_eq_true', decide_eq_true_eq, decide_eq_false_iff_not, W_len]
 by_cases h1 : 1 ≤ w ∧ w ≤ 4096
 ·rw [if_pos h1, wrap64 (x := w + 63) (by omega) (by omega), tdivP (by omega), wrap64 (by omega) (by omega)]
  by_cases h2 : (ws.length : Int) = (w + 63) / 64
  ·obtain ⟨b, hb, kk⟩ := specOk_lp hB (by omega) (w := w) (64 * ws.length - w.toNat) w.toNat (by omega)
   have e : ((w.toNat : Nat) : Int) = w := by omega
   rw [e] at kk
   rw [if_neg (by omega), kk, Ev.s1 R, Ev.s1 R]
   have : b = bitsOk w (W ws) := by
    rw [Bool.eq_iff_iff, hb, hiff]
    exact ⟨fun h => ⟨h1.1, h1.2, h2, fun i hi => h i (by omega)⟩, fun h i hi => h.2.2.2 i (by omega)⟩
   rw [← this]
   cases b <;> rfl
  ·rw [if_pos h2, Ev.s1 R]
   have : bitsOk w (W ws) = false := by
    rw [Bool.eq_false_iff]; intro h; exact h2 (hiff.1 h).2.2.1
   rw [this]
 ·rw [if_neg h1, Ev.s1 R]
  have : bitsOk w (W ws) = false := by
   rw [Bool.eq_false_iff]; intro h; exact h1 ⟨(hiff.1 h).1, (hiff.1 h).2.1⟩
  rw [this]
theorem implOk_ev {w : Int} {l : List Int} (R : Nat → Bool → Prop) : Ev (fun n => impl_BitsOk.c n w l (R n)) ↔ Ev (fun n => R n (bitsOk w l)) := by
 refine Ev.suc.trans ?_
 simp only [impl_BitsOk.c, impl_BitsOk.w, inside_ev, Ev.iteI, Ev.andI, Bool.not_eq_false', Bool.not_eq_true', decide_eq_true_eq, decide_eq_false_iff_not, Ev.s1 R, and_self]
 by_cases h1 : 1 ≤ w ∧ w ≤ 4096
 ·rw [if_pos h1]
  simp (disch := omega) only [wordsFor_ev, Ev.iteI, Bool.not_eq_true', decide_eq_false_iff_not, Ev.s1 R]
  by_cases h2 : (l.length : Int) = (w + 63) / 64
  ·rw [if_neg (by omega)]
   simp (disch := omega) only [impl_BitsOk.j0, tmodP, Ev.iteI, decide_eq_false_iff_not, wrap64, grd_dec2, grd_dec, Ev.s1 R]
   by_cases h3 : w % 64 = 0
   ·rw [if_neg (by omega), show bitsOk w l = true from by simp [bitsOk, h1, h2, h3]]
   ·rw [if_pos h3]
    refine ev_arg ?_
    have e1 : ((l.length : Int) - 1).toNat = l.length - 1 := by omega
    have e2 : Nat.min (w % 64).toNat 64 = (w % 64).toNat := Nat.min_eq_left (by omega)
    rw [e1, e2, fdivP (Int.le_of_lt (Int.pow_pos (by decide)))]
    simp [bitsOk, h1, h2, h3]
  ·rw [if_pos h2, show bitsOk w l = false from by simp [bitsOk, h2]]
 ·rw [if_neg h1, show bitsOk w l = false from by
   rw [Bool.eq_false_iff]; intro h; rw [bitsOk, decide_eq_true_eq] at h; exact h1 ⟨h.1, h.2.1⟩]
end Go.Vsi
end

section
set_option linter.unusedVariables false
set_option linter.unusedSimpArgs false
set_option synthInstance.maxSize 4096
namespace Go.Vsi
theorem getD_cons {l ys : List UInt8} {x : Int} {y : UInt8} (h : l.drop x.toNat = y :: ys) (h0 : 0 ≤ x) : x < (l.length : Int) ∧ List.getD l x.toNat 0 = y ∧ l.drop (x + 1).toNat = ys :=
 drop_cons h h0
def chOk (c : UInt8) : Bool := decide ((97 ≤ (c.toNat : Int) ∧ (c.toNat : Int) ≤ 122) ∨ (48 ≤ (c.toNat : Int) ∧ (c.toNat : Int) ≤ 57))
def nameOk (s : List UInt8) : Bool := decide (1 ≤ s.length ∧ s.length ≤ 12 ∧ 97 ≤ ((List.getD s 0 0).toNat : Int) ∧ ((List.getD s 0 0).toNat : Int) ≤ 122) && s.all chOk
theorem nameOk_lp {s : List UInt8} (hl : s.length ≤ 1099511627776) : ∀ (ys : List UInt8) (x : Int), s.drop x.toNat = ys → 0 ≤ x → ∀ (Kx : Nat → Prop) (Kr : Nat → Bool → Prop),
  (Ev (fun n => impl_nameOk.l4 n s x (Kx n) (Kr n)) ↔ if ys.all chOk = true then Ev Kx else Ev (fun n => Kr n false))
 | [], x, h, h0, Kx, Kr => by
  have := drop_nil h h0
  refine Ev.suc.trans ?_
  simp (disch := omega) only [impl_nameOk.l4, impl_nameOk.l4.b, if_neg, decide_eq_true_eq, Ev.s0 Kx, List.all_nil, if_true]
 | y :: ys, x, h, h0, Kx, Kr => by
  obtain ⟨e1, e2, e3⟩ := getD_cons h h0
  refine Ev.suc.trans ?_
  simp (disch := omega) only [impl_nameOk.l4, impl_nameOk.l4.b, if_pos, decide_eq_true_eq, decide_eq_false_iff_not, grd_dec2, e2, wrap64, Ev.iteI, nameOk_lp hl ys (x + 1) e3, Ev.s0 Kx, Ev.s1 Kr, List.all_cons, Bool.and_eq_true]
  simp only [chOk, decide_eq_true_eq]
  (repeat' split) <;> first | rfl | (exfalso; omega) | (exfalso; simp_all; omega) | (simp_all; done)
theorem nameOk_ev {s : List UInt8} (R : Nat → Bool → Prop) : Ev (fun n => impl_nameOk.c n s (R n)) ↔ Ev (fun n => R n (nameOk s)) := by
 refine Ev.suc.trans ?_
 simp only [impl_nameOk.c, impl_nameOk.w, Ev.iteI, decide_eq_true_eq, decide_eq_false_iff_not, nameOk]
 by_cases h1 : 1 ≤ s.length ∧ s.length ≤ 12
 ·rw [if_pos (by omega), if_pos (by omega)]
  simp (disch := omega) only [grd_dec, Ev.iteI, nameOk_lp (by omega) s 0 rfl, Ev.s1 R, decide_eq_false_iff_not, decide_eq_true_eq]
  by_cases h2 : 97 ≤ ((List.getD s 0 0).toNat : Int) ∧ ((List.getD s 0 0).toNat : Int) ≤ 122
  ·rw [if_pos (by omega), if_neg (by omega)]
   rw [show (decide (1 ≤ s.length ∧ s.length ≤ 12 ∧ 97 ≤ ((List.getD s 0 0).toNat : Int) ∧ ((List.getD s 0 0).toNat : Int) ≤ 122)) = true from by rw [decide_eq_true_eq]; omega, Bool.true_and]
   exact ev_bool
  ·rw [show (decide (1 ≤ s.length ∧ s.length ≤ 12 ∧ 97 ≤ ((List.getD s 0 0).toNat : Int) ∧ ((List.getD s 0 0).toNat : Int) ≤ 122)) = false from by rw [decide_eq_false_iff_not]; omega, Bool.false_and]
   split <;> (try split) <;> first | rfl | (exfalso; omega)
 ·rw [show (decide (1 ≤ s.length ∧ s.length ≤ 12 ∧ 97 ≤ ((List.getD s 0 0).toNat : Int) ∧ ((List.getD s 0 0).toNat : Int) ≤ 122)) = false from by rw [decide_eq_false_iff_not]; omega, Bool.false_and, Ev.s1 R]
  split <;> (try split) <;> first | rfl | (exfalso; omega)
theorem l1Digit_ev {a : Int} (R : Nat → Bool → Prop) : Ev (fun n => spec_l1Digit.c n a (R n)) ↔ Ev (fun n => R n (decide (48 ≤ a ∧ a ≤ 57))) := by
 refine Ev.suc.trans ?_
 simp only [spec_l1Digit.c, spec_l1Digit.w, Ev.iteI, decide_eq_true_eq, Ev.s1 R, ge_iff_le]
 split
 ·refine ev_arg ?_; rw [decide_eq_decide]; omega
 ·refine ev_arg ?_; symm; rw [decide_eq_false_iff_not]; omega
theorem l1Name_lp {s : List UInt8} (hl : s.length ≤ 1099511627776) : ∀ (ys : List UInt8) (x : Int), s.drop x.toNat = ys → 0 ≤ x → ∀ (Kx : Nat → Prop) (Kr : Nat → Bool → Prop),
  (Ev (fun n => spec_l1Name.l4 n s x (Kx n) (Kr n)) ↔ if ys.all chOk = true then Ev Kx else Ev (fun n => Kr n false))
 | [], x, h, h0, Kx, Kr => by
  have := drop_nil h h0
  refine Ev.suc.trans ?_
  simp (disch := omega) only [spec_l1Name.l4, spec_l1Name.l4.b, if_neg, decide_eq_true_eq, Ev.s0 Kx, List.all_nil, if_true]
 | y :: ys, x, h, h0, Kx, Kr => by
  obtain ⟨e1, e2, e3⟩ := getD_cons h h0
  refine Ev.suc.trans ?_
  simp (disch := omega) only [spec_l1Name.l4, spec_l1Name.l4.b, if_pos, decide_eq_true_eq, decide_eq_false_iff_not, Bool.not_eq_true', grd_dec2, e2, wrap64, l1Digit_ev, Ev.iteI, l1Name_lp hl ys (x + 1) e3, Ev.s0 Kx, Ev.s1 Kr, List.all_cons, Bool.and_eq_true]
  simp only [chOk, decide_eq_true_eq]
  (repeat' split) <;> first | rfl | (exfalso; omega) | (exfalso; simp_all; omega) | (simp_all; done)
theorem l1Name_ev {s : List UInt8} (R : Nat → Bool → Prop) : Ev (fun n => spec_l1Name.c n s (R n)) ↔ Ev (fun n => R n (nameOk s)) := by
 refine Ev.suc.trans ?_
 simp only [spec_l1Name.c, spec_l1Name.w, Ev.iteI, decide_eq_true_eq, decide_eq_false_iff_not, nameOk]
 by_cases h1 : 1 ≤ s.length ∧ s.length ≤ 12
 ·rw [if_pos (by omega), if_pos (by omega)]
  simp (disch := omega) only [grd_dec, l1Digit_ev, Ev.iteI, l1Name_lp (by omega) s 0 rfl, Ev.s1 R, decide_eq_false_iff_not, decide_eq_true_eq]
  match s, h1 with
  | c :: r, h1 =>
   have e : (List.getD (c :: r) 0 0) = c := rfl
   rw [e]
   by_cases h2 : 48 ≤ (c.toNat : Int) ∧ (c.toNat : Int) ≤ 57
   ·rw [if_pos h2, show (decide (1 ≤ (c :: r).length ∧ (c :: r).length ≤ 12 ∧ 97 ≤ (c.toNat : Int) ∧ (c.toNat : Int) ≤ 122)) = false from by rw [decide_eq_false_iff_not]; omega, Bool.false_and]
   ·rw [if_neg h2]
    by_cases h3 : chOk c = true
    ·have : 97 ≤ (c.toNat : Int) ∧ (c.toNat : Int) ≤ 122 := by
      rw [chOk, decide_eq_true_eq] at h3; omega
     rw [show (decide (1 ≤ (c :: r).length ∧ (c :: r).length ≤ 12 ∧ 97 ≤ (c.toNat : Int) ∧ (c.toNat : Int) ≤ 122)) = true from by rw [decide_eq_true_eq]; omega, Bool.true_and]
     exact ev_bool
    ·rw [List.all_cons, if_neg (by simp [h3]), show chOk c = false from by simpa using h3, Bool.false_and, Bool.and_false]
  | [], h1 => simp at h1
 ·rw [show (decide (1 ≤ s.length ∧ s.length ≤ 12 ∧ 97 ≤ ((List.getD s 0 0).toNat : Int) ∧ ((List.getD s 0 0).toNat : Int) ≤ 122)) = false from by rw [decide_eq_false_iff_not]; omega, Bool.false_and, Ev.s1 R]
  split <;> (try split) <;> first | rfl | (exfalso; omega)
theorem declared1_ev {a : List UInt8} {b : Int} {z : List UInt8} (R : Nat → Bool → Prop) : Ev (fun n => impl_declared_1.c n a b z (R n)) ↔ Ev (fun n => R n (decide (a = z))) := by
 refine Ev.suc.trans ?_
 simp only [impl_declared_1.c, impl_declared_1.w, Ev.s1 R]
 refine ev_arg ?_
 rw [Bool.eq_iff_iff]; simp
theorem slices_IndexFunc_Decl__impl_declared_1_lp {l : List tDecl} {z : List UInt8} (hl : l.length ≤ 1099511627776) : ∀ (ys : List tDecl) (x : Int), l.drop x.toNat = ys → 0 ≤ x →
  ∀ (Kx : Nat → Prop) (Kr : Nat → Int → Prop),
  (Ev (fun n => slices_IndexFunc_Decl__impl_declared_1.l2 n l z l.length x (Kx n) (Kr n)) ↔ if firstIx (fun y => decide (y.1 = z)) ys x < 0 then Ev Kx else Ev (fun n => Kr n (firstIx (fun y => decide (y.1 = z)) ys x)))
 | [], x, h, h0, Kx, Kr => by
  have := drop_nil h h0
  rw [firstIx, if_pos (by decide)]
  refine Ev.suc.trans ?_
  simp (disch := omega) only [slices_IndexFunc_Decl__impl_declared_1.l2, slices_IndexFunc_Decl__impl_declared_1.l2.b, if_neg, decide_eq_true_eq, Ev.s0 Kx]
 | y :: ys, x, h, h0, Kx, Kr => by
  obtain ⟨e1, e2, e3⟩ := drop_cons h h0
  refine Ev.suc.trans ?_
  simp (disch := first | omega | omega) only [slices_IndexFunc_Decl__impl_declared_1.l2, slices_IndexFunc_Decl__impl_declared_1.l2.b, if_pos, decide_eq_true_eq, grd_dec2, e2, wrap64, Ev.s1 Kr, declared1_ev, Ev.iteI]
  rw [slices_IndexFunc_Decl__impl_declared_1_lp hl ys (x + 1) e3 (by omega), Ev.s0 Kx, Ev.s1 Kr]
  simp only [firstIx, decide_eq_true_eq]
  split
  ·rw [if_neg (by omega)]
  ·rfl
theorem slices_IndexFunc_Decl__impl_declared_1_ev {l : List tDecl} {z : List UInt8} (hl : l.length ≤ 1099511627776) (R : Nat → Int → Prop) :
  Ev (fun n => slices_IndexFunc_Decl__impl_declared_1.c n l z (R n)) ↔ Ev (fun n => R n (firstIx (fun y => decide (y.1 = z)) l 0)) := by
 refine Ev.suc.trans ?_
 simp only [slices_IndexFunc_Decl__impl_declared_1.c, slices_IndexFunc_Decl__impl_declared_1.w]
 rw [slices_IndexFunc_Decl__impl_declared_1_lp hl l 0 rfl (by omega), Ev.s1 R, Ev.s1 R]
 split
 ·rw [firstIx_neg (by omega) ‹_›]
 ·rfl
theorem declared_ev {l : List tDecl} {z : List UInt8} (hl : l.length ≤ 1099511627776) (R : Nat → Int → Prop) : Ev (fun n => impl_declared.c n l z (R n)) ↔ Ev (fun n => R n (firstIx (fun y => decide (y.1 = z)) l 0)) := by
 refine Ev.suc.trans ?_
 simp only [impl_declared.c, impl_declared.w]
 rw [slices_IndexFunc_Decl__impl_declared_1_ev hl, Ev.s1 R]
def declsGo : List tDecl → List tDecl → Int → Bool
 | _, [], t => decide (t ≤ 20000)
 | pre, y :: r, t => nameOk y.1 && decide (1 ≤ y.2 ∧ y.2 ≤ 4096) && !(pre.any fun z => decide (z.1 = y.1)) && declsGo (pre ++ [y]) r (t + y.2)
def declsOk (l : List tDecl) : Bool := decide (l.length ≤ 60) && declsGo [] l 0
theorem take_succ {α : Type} {l ys : List α} {x : Int} {y : α} (h : l.drop x.toNat = y :: ys) (h0 : 0 ≤ x) : l.take (x + 1).toNat = l.take x.toNat ++ [y] := by
 have hl : x.toNat < l.length := by
  rcases Nat.lt_or_ge x.toNat l.length with h' | h'
  ·exact h'
  ·rw [List.drop_eq_nil_of_le h'] at h; cases h
 rw [show (x + 1).toNat = x.toNat + 1 from by omega, List.take_succ_eq_append_getElem hl]
 congr 2
 have := List.getElem?_drop (xs := l) (i := x.toNat) (j := 0)
 rw [h] at this
 simp only [List.getElem?_cons_zero, Nat.add_zero, List.getElem?_eq_getElem hl, Option.some.injEq] at this
 exact this.symm
theorem declsOk_lp {l : List tDecl} (hl : l.length ≤ 60) : ∀ (ys : List tDecl) (x t : Int), l.drop x.toNat = ys → 0 ≤ x → 0 ≤ t → t ≤ 4096 * x → ∀ (R : Nat → Bool → Prop),
  (Ev (fun n => impl_DeclsOk.l5 n l l l.length t x (fun y => R n (decide (y ≤ 20000))) (R n)) ↔ Ev (fun n => R n (declsGo (l.take x.toNat) ys t)))
 | [], x, t, h, h0, ht, ht', R => by
  have := drop_nil h h0
  refine Ev.suc.trans ?_
  simp (disch := omega) only [impl_DeclsOk.l5, impl_DeclsOk.l5.b, if_neg, decide_eq_true_eq, Ev.s1 R, declsGo]
 | y :: ys, x, t, h, h0, ht, ht', R => by
  obtain ⟨e1, e2, e3⟩ := drop_cons h h0
  refine Ev.suc.trans ?_
  have hd : (List.drop 0 (List.take x.toNat l)).length ≤ 1099511627776 := by simp; omega
  simp (disch := omega) only [impl_DeclsOk.l5, impl_DeclsOk.l5.b, if_pos, decide_eq_true_eq, grd_dec2, e2, nameOk_ev, inside_ev, Ev.iteI, Bool.not_eq_false', Ev.s1 R, declsGo]
  by_cases h1 : nameOk y.1 = true
  ·by_cases h2 : 1 ≤ y.2 ∧ y.2 ≤ 4096
   ·rw [if_pos h1, if_pos h2]
    simp (disch := omega) only [grd_dec3, declared_ev hd, Ev.iteI, wrap64, ge_iff_le]
    rw [declsOk_lp hl ys (x + 1) (t + y.2) e3 (by omega) (by omega) (by omega), Ev.s1 R, Ev.s1 R, take_succ h h0]
    have e := firstIx_any (p := fun z : tDecl => decide (z.1 = y.1)) (l := List.take x.toNat l) (x := 0) (by omega)
    rw [List.drop_zero]
    by_cases h3 : 0 ≤ firstIx (fun z : tDecl => decide (z.1 = y.1)) (List.take x.toNat l) 0
    ·rw [if_pos h3, ← e]; simp [h1, h2, h3]
    ·rw [if_neg h3, ← e]; simp [h1, h2, h3]
   ·rw [if_pos h1, if_neg h2]; simp [h1, h2]
  ·rw [if_neg h1]; simp [h1]
theorem declsOk_ev {l : List tDecl} (R : Nat → Bool → Prop) : Ev (fun n => impl_DeclsOk.c n l (R n)) ↔ Ev (fun n => R n (declsOk l)) := by
 refine Ev.suc.trans ?_
 simp only [impl_DeclsOk.c, impl_DeclsOk.w, Ev.iteI, decide_eq_true_eq, declsOk]
 by_cases h : l.length ≤ 60
 ·rw [if_neg (by omega), declsOk_lp h l 0 0 rfl (by omega) (by omega) (by omega) (fun n => R (n + 1)), Ev.s1 R]
  simp [h]
 ·rw [if_pos (by omega), Ev.s1 R]; simp [h]
theorem declsOkS_in {l : List tDecl} {t i : Int} {y : tDecl} (hl : l.length ≤ 60) (hi : rd l i.toNat = y) (hi0 : 0 ≤ i) (hi1 : i < (l.length : Int)) : ∀ (m : Nat) (k : Int), k + m = i → 0 ≤ k → ∀ (Kx : Nat → List tDecl → Int → Int → Prop) (Kr : Nat → Bool → Prop),
  (Ev (fun n => spec_DeclsOk.l10 n l t i k (Kx n) (Kr n)) ↔ if (((l.take i.toNat).drop k.toNat).any fun z => decide (z.1 = y.1)) = true then Ev (fun n => Kr n false) else Ev (fun n => Kx n l t i))
 | 0, k, h, h0, Kx, Kr => by
  refine Ev.suc.trans ?_
  simp (disch := omega) only [spec_DeclsOk.l10, spec_DeclsOk.l10.b, if_neg, decide_eq_true_eq, Ev.s3 Kx]
  rw [List.drop_eq_nil_of_le (by simp; omega)]
  simp
 | m + 1, k, h, h0, Kx, Kr => by
  refine Ev.suc.trans ?_
  have e : (l.take i.toNat).drop k.toNat = rd l k.toNat :: (l.take i.toNat).drop (k + 1).toNat := by
   have hk : k.toNat < (l.take i.toNat).length := by simp; omega
   rw [List.drop_eq_getElem_cons hk, show (k + 1).toNat = k.toNat + 1 from by omega]
   congr 1
   rw [List.getElem_take, rd, List.getD_eq_getElem?_getD, List.getElem?_eq_getElem (by omega)]; rfl
  simp (disch := omega) only [spec_DeclsOk.l10, spec_DeclsOk.l10.b, if_pos, decide_eq_true_eq, grd_dec2, hi, wrap64, Ev.iteI, beq_iff_eq, Ev.s1 Kr, e, List.any_cons, Bool.or_eq_true]
  rw [declsOkS_in hl hi hi0 hi1 m (k + 1) (by omega) (by omega), Ev.s1 Kr, Ev.s3 Kx]
  (repeat' split) <;> first | rfl | (exfalso; simp_all; done)
theorem declsOkS_lp {l : List tDecl} (hl : l.length ≤ 60) : ∀ (ys : List tDecl) (x t : Int), l.drop x.toNat = ys → 0 ≤ x → 0 ≤ t → t ≤ 4096 * x → ∀ (R : Nat → Bool → Prop),
  (Ev (fun n => spec_DeclsOk.l5 n l t x (fun y => R n (decide (y ≤ 20000))) (R n)) ↔ Ev (fun n => R n (declsGo (l.take x.toNat) ys t)))
 | [], x, t, h, h0, ht, ht', R => by
  have := drop_nil h h0
  refine Ev.suc.trans ?_
  simp (disch := omega) only [spec_DeclsOk.l5, spec_DeclsOk.l5.b, if_neg, decide_eq_true_eq, Ev.s1 R, declsGo]
 | y :: ys, x, t, h, h0, ht, ht', R => by
  obtain ⟨e1, e2, e3⟩ := drop_cons h h0
  refine Ev.suc.trans ?_
  simp (disch := omega) only [spec_DeclsOk.l5, spec_DeclsOk.l5.b, if_pos, decide_eq_true_eq, grd_dec2, e2, l1Name_ev, l1In_ev, Ev.iteI, Bool.not_eq_false', Bool.not_eq_true', decide_eq_false_iff_not, Ev.s1 R, declsGo, spec_DeclsOk.j3]
  by_cases h1 : nameOk y.1 = true
  ·by_cases h2 : 1 ≤ y.2 ∧ y.2 ≤ 4096
   ·rw [if_pos h1, if_neg (by omega), declsOkS_in hl e2 h0 e1 x.toNat 0 (by omega) (by omega), Ev.s1 R]
    simp (disch := omega) only [grd_dec2, e2, wrap64]
    rw [declsOkS_lp hl ys (x + 1) (t + y.2) e3 (by omega) (by omega) (by omega) (fun n => R (n + 1)), Ev.s1 R, take_succ h h0, show (0 : Int).toNat = 0 from rfl, List.drop_zero]
    split
    ·rename_i h3; simp [h1, h2, h3]
    ·rename_i h3; simp only [Bool.not_eq_true] at h3; simp [h1, h2, h3]
   ·rw [if_pos h1, if_pos h2]; simp [h1, h2]
  ·rw [if_neg h1]; simp [h1]
theorem declsOkS_ev {l : List tDecl} (R : Nat → Bool → Prop) : Ev (fun n => spec_DeclsOk.c n l (R n)) ↔ Ev (fun n => R n (declsOk l)) := by
 refine Ev.suc.trans ?_
 simp only [spec_DeclsOk.c, spec_DeclsOk.w, Ev.iteI, decide_eq_true_eq, declsOk]
 by_cases h : l.length ≤ 60
 ·rw [if_neg (by omega), declsOkS_lp h l 0 0 rfl (by omega) (by omega) (by omega) (fun n => R (n + 1)), Ev.s1 R]
  simp [h]
 ·rw [if_pos (by omega), Ev.s1 R]; simp [h]
end Go.Vsi
end

section
set_option linter.unusedVariables false
set_option linter.unusedSimpArgs false
set_option synthInstance.maxSize 4096
namespace Go.Vsi
def nodeW (d : List tDecl) (x : tTNode) (kw : List Int) : Int :=
 if x.1 = 1 ∧ kw.length = 0 ∧ 0 ≤ x.2.1 ∧ x.2.1 ≤ (d.length : Int) - 1 then (rd d x.2.1.toNat).2
 else if x.1 = 2 ∧ kw.length = 0 ∧ bitsOk x.2.2.2.2.1 x.2.2.2.2.2.1 = true then x.2.2.2.2.1
 else if x.1 = 3 ∧ 1 < kw.length then kw.sum
 else if kw.length ≠ 1 then -1
 else if x.1 = 4 ∧ 0 ≤ x.2.2.2.1 ∧ x.2.2.2.1 ≤ x.2.2.1 ∧ x.2.2.1 < rd kw 0 then x.2.2.1 - x.2.2.2.1 + 1
 else if (x.1 = 5 ∨ x.1 = 6) ∧ 0 ≤ x.2.2.1 ∧ x.2.2.1 ≤ 4096 then rd kw 0 + x.2.2.1
 else if (x.1 = 7 ∨ x.1 = 8) ∧ 0 ≤ x.2.2.1 ∧ x.2.2.1 ≤ 4096 then rd kw 0
 else if x.1 = 9 ∧ 1 ≤ x.2.2.1 ∧ x.2.2.1 ≤ 4096 then rd kw 0 * x.2.2.1
 else -1
theorem mulB {a b : Int} (h1 : 0 ≤ a) (h2 : a ≤ 8192) (h3 : 0 ≤ b) (h4 : b ≤ 4096) : 0 ≤ a * b ∧ a * b ≤ 33554432 :=
 ⟨Int.mul_nonneg h1 h3, Int.le_trans (Int.mul_le_mul h2 h4 h3 (by decide)) (by decide)⟩
theorem width_lp {kw : List Int} (hl : kw.length ≤ 4096) (hk : ∀ w ∈ kw, 0 ≤ w ∧ w ≤ 4096) : ∀ (ys : List Int) (x s : Int), kw.drop x.toNat = ys → 0 ≤ x → 0 ≤ s → s ≤ 4096 * x → ∀ (Kx : Nat → Int → Prop),
  (Ev (fun n => impl_TNode_width.l11 n kw kw.length s x (Kx n)) ↔ Ev (fun n => Kx n (s + ys.sum)))
 | [], x, s, h, h0, hs, hs', Kx => by
  have := drop_nil h h0
  refine Ev.suc.trans ?_
  simp (disch := omega) only [impl_TNode_width.l11, impl_TNode_width.l11.b, if_neg, decide_eq_true_eq, Ev.s1 Kx, List.sum_nil, Int.add_zero]
 | y :: ys, x, s, h, h0, hs, hs', Kx => by
  obtain ⟨e1, e2, e3⟩ := drop_cons h h0
  have hy : y ∈ kw := by
   have : y ∈ kw.drop x.toNat := by rw [h]; exact List.mem_cons_self
   exact List.mem_of_mem_drop this
  have hy' := hk y hy
  refine Ev.suc.trans ?_
  simp (disch := omega) only [impl_TNode_width.l11, impl_TNode_width.l11.b, if_pos, decide_eq_true_eq, grd_dec2, e2, wrap64]
  rw [width_lp hl hk ys (x + 1) (s + y) e3 (by omega) (by omega) (by omega), Ev.s1 Kx]
  refine ev_arg ?_
  rw [List.sum_cons]; omega
theorem width_q21 {x : tTNode} {f : Int} {b : Bool} (K : Nat → Int → Prop) (S : Nat → Prop) :
  Ev (fun n => impl_TNode_width.q21 n x f b (K n) (S n)) ↔ if b = true then Ev (fun n => K n (IntKind.wrap .i64 (f + x.2.2.1))) else
   if (x.1 = 7 ∨ x.1 = 8) ∧ 0 ≤ x.2.2.1 ∧ x.2.2.1 ≤ 4096 then Ev (fun n => K n f) else if x.1 = 9 ∧ 1 ≤ x.2.2.1 ∧ x.2.2.1 ≤ 4096 then Ev (fun n => K n (IntKind.wrap .i64 (f * x.2.2.1))) else Ev S := by
 refine Ev.suc.trans ?_
 simp only [impl_TNode_width.q21, impl_TNode_width.q21.b, impl_TNode_width.j0, inside_ev, Ev.iteI, decide_eq_true_eq, decide_eq_false_iff_not, Ev.s1 K, Ev.s0 S, Bool.false_eq_true, if_false]
 (repeat' split) <;> first | rfl | (exfalso; omega)
theorem width_q9 {x : tTNode} {kw : List Int} {b : Bool} (hl : kw.length ≤ 4096) (hk : ∀ w ∈ kw, 0 ≤ w ∧ w ≤ 4096) (hb : b = true ↔ x.1 = 3 ∧ 1 < kw.length) (K : Nat → Int → Prop) (S : Nat → Prop) :
  Ev (fun n => impl_TNode_width.q9 n x kw (rd kw 0) b (K n) (S n)) ↔ if x.1 = 3 ∧ 1 < kw.length then Ev (fun n => K n kw.sum) else if kw.length ≠ 1 then Ev (fun n => K n (-1)) else
   if x.1 = 4 ∧ 0 ≤ x.2.2.2.1 ∧ x.2.2.2.1 ≤ x.2.2.1 ∧ x.2.2.1 < rd kw 0 then Ev (fun n => K n (x.2.2.1 - x.2.2.2.1 + 1))
   else if (x.1 = 5 ∨ x.1 = 6) ∧ 0 ≤ x.2.2.1 ∧ x.2.2.1 ≤ 4096 then Ev (fun n => K n (rd kw 0 + x.2.2.1))
   else if (x.1 = 7 ∨ x.1 = 8) ∧ 0 ≤ x.2.2.1 ∧ x.2.2.1 ≤ 4096 then Ev (fun n => K n (rd kw 0))
   else if x.1 = 9 ∧ 1 ≤ x.2.2.1 ∧ x.2.2.1 ≤ 4096 then Ev (fun n => K n (rd kw 0 * x.2.2.1)) else Ev S := by
 refine Ev.suc.trans ?_
 simp only [impl_TNode_width.q9, impl_TNode_width.q9.b, impl_TNode_width.j1, Ev.iteI, hb]
 by_cases h3 : x.1 = 3 ∧ 1 < kw.length
 ·rw [if_pos h3, if_pos h3, width_lp hl hk kw 0 0 rfl (by omega) (by omega) (by omega), Ev.s1 K, Int.zero_add]
 rw [if_neg h3, if_neg h3]
 by_cases h1 : kw.length = 1
 ·have hf : 0 ≤ rd kw 0 ∧ rd kw 0 ≤ 4096 := by
   match kw, h1, hk with
   | [w], _, hk => exact hk w List.mem_cons_self
  have h1' : (kw.length : Int) = 1 := by omega
  rw [if_neg (c := kw.length ≠ 1) (by omega)]
  simp only [h1', decide_true, Bool.not_true, Bool.false_eq_true, if_false]
  simp only [width_q21, inside_ev, Ev.iteI, decide_eq_true_eq, decide_eq_false_iff_not, Ev.s1 K, Ev.s0 S, Bool.false_eq_true, if_false, ge_iff_le]
  by_cases h4 : x.1 = 4
  ·simp only [h4, true_and, if_true, show ¬ (4 : Int) = 5 from by decide, show ¬ (4 : Int) = 6 from by decide, show ¬ (4 : Int) = 7 from by decide, show ¬ (4 : Int) = 8 from by decide, show ¬ (4 : Int) = 9 from by decide, or_self, false_and, if_false, not_false_eq_true]
   by_cases g1 : 0 ≤ x.2.2.2.1
   ·by_cases g2 : x.2.2.2.1 ≤ x.2.2.1
    ·by_cases g3 : x.2.2.1 < rd kw 0
     ·simp (disch := omega) only [g1, g2, g3, and_self, if_true, wrap64, decide_true]
     ·simp only [g1, g2, g3, and_false, if_true, if_false, decide_false, Bool.false_eq_true]
    ·simp only [g1, g2, false_and, and_false, if_true, if_false]
   ·simp only [g1, false_and, if_false]
  ·simp only [h4, false_and, if_false]
   by_cases h5 : (x.1 = 5 ∨ x.1 = 6) ∧ 0 ≤ x.2.2.1 ∧ x.2.2.1 ≤ 4096
   ·have e : IntKind.wrap .i64 (rd kw 0 + x.2.2.1) = rd kw 0 + x.2.2.1 := wrap64 (by omega) (by omega)
    rw [if_pos h5, e]
    rcases h5 with ⟨h5 | h5, h6⟩
    ·simp only [h5, h6, not_true, if_false, if_true, and_self]
    ·simp only [h5, h6, show ¬ (6 : Int) = 5 from by decide, not_false_eq_true, if_true, and_self]
   ·rw [if_neg h5]
    have e : 1 ≤ x.2.2.1 ∧ x.2.2.1 ≤ 4096 → IntKind.wrap .i64 (rd kw 0 * x.2.2.1) = rd kw 0 * x.2.2.1 := fun h => by
     have := mulB hf.1 (by omega) (show 0 ≤ x.2.2.1 by omega) h.2
     exact wrap64 (by omega) (by omega)
    (repeat' split) <;> first | rfl | (exfalso; omega) | (exfalso; simp_all; done) | (rw [e (by omega)])
 ·have h1' : ¬ (kw.length : Int) = 1 := by omega
  simp only [h1, h1', ne_eq, not_false_eq_true, if_true, decide_false, Bool.not_false, Ev.s1 K]
theorem width_q5 {x : tTNode} {d : List tDecl} {kw : List Int} {b : Bool} (hl : kw.length ≤ 4096) (hk : ∀ w ∈ kw, 0 ≤ w ∧ w ≤ 4096) (hb : b = true ↔ x.1 = 1 ∧ kw.length = 0 ∧ 0 ≤ x.2.1 ∧ x.2.1 ≤ (d.length : Int) - 1) (R : Nat → Int → Prop) :
  Ev (fun n => impl_TNode_width.q5 n x d kw (rd kw 0) b (R n) (R n (-1))) ↔ Ev (fun n => R n (nodeW d x kw)) := by
 refine Ev.suc.trans ?_
 simp only [impl_TNode_width.q5, impl_TNode_width.q5.b, impl_TNode_width.j2, Ev.iteI, nodeW]
 by_cases h1 : x.1 = 1 ∧ kw.length = 0 ∧ 0 ≤ x.2.1 ∧ x.2.1 ≤ (d.length : Int) - 1
 ·simp (disch := omega) only [hb.2 h1, if_true, grd_dec2, Ev.s1 R]
  rw [if_pos h1]
 have hb' : ¬ b = true := fun h => h1 (hb.1 h)
 rw [if_neg hb', if_neg h1]
 have q9 : ∀ (c : Bool), (c = true ↔ x.1 = 3 ∧ 1 < kw.length) → ((Ev fun n => impl_TNode_width.q9 n x kw (rd kw 0) c (R (n + 1)) (R (n + 1) (-1))) ↔ Ev (fun n => R n (if x.1 = 3 ∧ 1 < kw.length then kw.sum
   else if kw.length ≠ 1 then -1
   else if x.1 = 4 ∧ 0 ≤ x.2.2.2.1 ∧ x.2.2.2.1 ≤ x.2.2.1 ∧ x.2.2.1 < rd kw 0 then x.2.2.1 - x.2.2.2.1 + 1
   else if (x.1 = 5 ∨ x.1 = 6) ∧ 0 ≤ x.2.2.1 ∧ x.2.2.1 ≤ 4096 then rd kw 0 + x.2.2.1
   else if (x.1 = 7 ∨ x.1 = 8) ∧ 0 ≤ x.2.2.1 ∧ x.2.2.1 ≤ 4096 then rd kw 0
   else if x.1 = 9 ∧ 1 ≤ x.2.2.1 ∧ x.2.2.1 ≤ 4096 then rd kw 0 * x.2.2.1
   else -1))) := fun c hc => by
  rw [width_q9 hl hk hc (fun n => R (n + 1)) (fun n => R (n + 1) (-1))]
  simp only [Ev.s1 R]
  (repeat' split) <;> first | rfl | (exfalso; omega)
 simp only [decide_eq_true_eq, Bool.false_eq_true, if_false, implOk_ev, Ev.iteI, Ev.s1 R]
 have f3 : ¬ (x.1 = 3 ∧ 1 < kw.length) → (false = true ↔ x.1 = 3 ∧ 1 < kw.length) := fun h => iff_of_false Bool.false_ne_true h
 by_cases h2 : x.1 = 2
 ·have h3 : ¬ x.1 = 3 := by omega
  have h3' : ¬ (x.1 = 3 ∧ 1 < kw.length) := by omega
  rw [if_pos h2]
  by_cases h4 : kw.length = 0
  ·have h4' : (kw.length : Int) = 0 := by omega
   rw [if_pos h4']
   by_cases h5 : bitsOk x.2.2.2.2.1 x.2.2.2.2.2.1 = true
   ·rw [if_pos h5, if_pos ⟨h2, h4, h5⟩]
   ·rw [if_neg h5, if_neg h3, q9 false (f3 h3'), if_neg (c := x.1 = 2 ∧ kw.length = 0 ∧ bitsOk x.2.2.2.2.1 x.2.2.2.2.2.1 = true) (fun h => h5 h.2.2)]
  ·have h4' : ¬ (kw.length : Int) = 0 := by omega
   rw [if_neg h4', if_neg h3, q9 false (f3 h3'), if_neg (c := x.1 = 2 ∧ kw.length = 0 ∧ bitsOk x.2.2.2.2.1 x.2.2.2.2.2.1 = true) (fun h => h4 h.2.1)]
 ·rw [if_neg h2, if_neg (c := x.1 = 2 ∧ kw.length = 0 ∧ bitsOk x.2.2.2.2.1 x.2.2.2.2.2.1 = true) (fun h => h2 h.1)]
  by_cases h3 : x.1 = 3
  ·rw [if_pos h3, q9 _ (by rw [decide_eq_true_eq]; omega)]
  ·rw [if_neg h3, q9 false (f3 (fun h => h3 h.1))]
theorem width_ev {x : tTNode} {d : List tDecl} {kw : List Int} (hd : d.length ≤ 1099511627776) (hl : kw.length ≤ 4096) (hk : ∀ w ∈ kw, 0 ≤ w ∧ w ≤ 4096) (R : Nat → Int → Prop) :
  Ev (fun n => impl_TNode_width.c n x d kw (R n)) ↔ Ev (fun n => R n (nodeW d x kw)) := by
 refine Ev.suc.trans ?_
 have key : ∀ (f : Int), f = rd kw 0 → ((Ev fun n => impl_TNode_width.j3 (R (n + 1)) x d kw (impl_TNode_width.q5 n) n f) ↔ Ev (fun n => R n (nodeW d x kw))) := by
  rintro f rfl
  simp (disch := omega) only [impl_TNode_width.j3, Ev.iteI, decide_eq_true_eq, inside_ev, wrap64]
  by_cases h1 : x.1 = 1
  ·by_cases h2 : (kw.length : Int) = 0
   ·rw [if_pos h1, if_pos h2, width_q5 hl hk (by rw [decide_eq_true_eq]; omega) (fun n => R (n + 1)), Ev.s1 R]
   ·rw [if_pos h1, if_neg h2, width_q5 hl hk (iff_of_false Bool.false_ne_true (by omega)) (fun n => R (n + 1)), Ev.s1 R]
  ·rw [if_neg h1, width_q5 hl hk (iff_of_false Bool.false_ne_true (by omega)) (fun n => R (n + 1)), Ev.s1 R]
 simp only [impl_TNode_width.c, impl_TNode_width.w, Ev.iteI, decide_eq_true_eq]
 by_cases h : (kw.length : Int) > 0
 ·rw [if_pos h]
  simp (disch := omega) only [grd_dec]
  exact key _ rfl
 ·rw [if_neg h]
  refine key 0 ?_
  match kw, h with
  | [], _ => rfl
  | _ :: _, h => simp at h
end Go.Vsi
end

section
set_option linter.unusedVariables false
set_option linter.unusedSimpArgs false
set_option synthInstance.maxSize 4096
namespace Go.Vsi
def plainB (x : tTNode) : Bool := decide (((4 ≤ x.1 ∧ x.1 ≤ 9) ∨ x.2.2.1 = 0) ∧ (x.1 = 4 ∨ x.2.2.2.1 = 0) ∧ (x.1 = 1 ∨ x.2.1 = 0) ∧ (x.1 = 2 ∨ (x.2.2.2.2.1 = 0 ∧ x.2.2.2.2.2.1.length = 0)))
theorem plain_q3 {x : tTNode} {b : Bool} (R : Nat → Bool → Prop) (S : Nat → tTNode → Prop) :
  Ev (fun n => impl_TNode_plain.q3 n x b (R n) (S n)) ↔ if b = true then Ev (fun n => R n false) else Ev (fun n => S n x) := by
 refine Ev.suc.trans ?_
 simp only [impl_TNode_plain.q3, impl_TNode_plain.q3.b, Ev.iteI, Ev.s1 R, Ev.s1 S]
theorem plain_q2 {x : tTNode} {b : Bool} (hb : b = true ↔ (4 ≤ x.1 ∧ x.1 ≤ 9)) (R : Nat → Bool → Prop) :
  Ev (fun n => impl_TNode_plain.q2 n x b (R n)) ↔ Ev (fun n => R n (plainB x)) := by
 refine Ev.suc.trans ?_
 have hb' : b = false ↔ ¬ (4 ≤ x.1 ∧ x.1 ≤ 9) := by rw [← hb]; simp
 simp only [impl_TNode_plain.q2, impl_TNode_plain.q2.b, impl_TNode_plain.j0, plain_q3, Ev.iteI, Ev.s1 R, Bool.not_eq_true', Bool.not_eq_false', decide_eq_true_eq, decide_eq_false_iff_not, Bool.false_eq_true, if_false, if_true, hb']
 (repeat' split) <;> first
  | (refine ev_arg ?_; symm; rw [plainB, decide_eq_false_iff_not]; omega)
  | (refine ev_arg ?_; symm; rw [plainB, decide_eq_true_eq]; omega)
  | (refine ev_arg ?_; rw [plainB, decide_eq_decide]; omega)
theorem plain_ev {x : tTNode} (R : Nat → Bool → Prop) : Ev (fun n => impl_TNode_plain.c n x (R n)) ↔ Ev (fun n => R n (plainB x)) := by
 refine Ev.suc.trans ?_
 simp only [impl_TNode_plain.c, impl_TNode_plain.w, Ev.iteI, decide_eq_true_eq, ge_iff_le]
 split
 ·rename_i h; rw [plain_q2 (by rw [decide_eq_true_eq]; omega) (fun n => R (n + 1)), Ev.s1 R]
 ·rename_i h; rw [plain_q2 (by simp; omega) (fun n => R (n + 1)), Ev.s1 R]
def kidsIn (i : Int) (ks : List Int) : Bool := ks.all fun k => decide (0 ≤ k ∧ k ≤ i - 1)
theorem kidsIn_cons {i y : Int} {ys : List Int} : kidsIn i (y :: ys) = true ↔ (0 ≤ y ∧ y ≤ i - 1) ∧ kidsIn i ys = true := by
 rw [kidsIn, kidsIn, List.all_cons, Bool.and_eq_true, decide_eq_true_eq]
def kindB (d : List tDecl) (x : tTNode) : Bool := decide ((x.1 = 1 ∧ x.2.2.2.2.2.2.length = 0 ∧ 0 ≤ x.2.1 ∧ x.2.1 ≤ (d.length : Int) - 1) ∨ (x.1 = 2 ∧ x.2.2.2.2.2.2.length = 0 ∧ bitsOk x.2.2.2.2.1 x.2.2.2.2.2.1 = true) ∨ (x.1 = 3 ∧ 2 ≤ x.2.2.2.2.2.2.length) ∨ (4 ≤ x.1 ∧ x.1 ≤ 9 ∧ x.2.2.2.2.2.2.length = 1))
theorem noBits_ev {a : Int} {l : List Int} (R : Nat → Bool → Prop) : Ev (fun n => spec_l3NoBits.c n a l (R n)) ↔ Ev (fun n => R n (decide (a = 0 ∧ l.length = 0))) := by
 refine Ev.suc.trans ?_
 simp only [spec_l3NoBits.c, spec_l3NoBits.w, Ev.iteI, decide_eq_true_eq, Ev.s1 R]
 split
 ·refine ev_arg ?_; rw [decide_eq_decide]; omega
 ·refine ev_arg ?_; symm; rw [decide_eq_false_iff_not]; omega
theorem l3One_ev {a : Int} (R : Nat → Bool → Prop) : Ev (fun n => spec_l3One.c n a (R n)) ↔ Ev (fun n => R n (decide (4 ≤ a ∧ a ≤ 9))) := by
 refine Ev.suc.trans ?_
 simp only [spec_l3One.c, spec_l3One.w, l1In_ev, Ev.s1 R]
theorem form_lp {d : List tDecl} {i a b c e f : Int} {w ks : List Int} (hl : ks.length ≤ 1099511627776) (hi0 : 0 ≤ i) (hi : i ≤ 1048576) : ∀ (ys : List Int) (x : Int), ks.drop x.toNat = ys → 0 ≤ x →
  ∀ (Kx : Nat → List tDecl → Int → Int → Int → Int → Int → List Int → List Int → Prop) (Kr : Nat → Bool → Prop),
  (Ev (fun n => spec_l3Form.l2 n d i a b c e f w ks x (Kx n) (Kr n)) ↔ if kidsIn i ys = true then Ev (fun n => Kx n d a b c e f w ks) else Ev (fun n => Kr n false))
 | [], x, h, h0, Kx, Kr => by
  have := drop_nil h h0
  refine Ev.suc.trans ?_
  simp (disch := omega) only [spec_l3Form.l2, spec_l3Form.l2.b, if_neg, decide_eq_true_eq, Ev.s8 Kx, kidsIn, List.all_nil, if_true]
 | y :: ys, x, h, h0, Kx, Kr => by
  obtain ⟨e1, e2, e3⟩ := drop_cons h h0
  refine Ev.suc.trans ?_
  simp (disch := omega) only [spec_l3Form.l2, spec_l3Form.l2.b, if_pos, decide_eq_true_eq, decide_eq_false_iff_not, Bool.not_eq_true', grd_dec2, e2, wrap64, l1In_ev, Ev.iteI, Ev.s1 Kr]
  rw [form_lp hl hi0 hi ys (x + 1) e3 (by omega), Ev.s1 Kr, Ev.s8 Kx]
  simp only [kidsIn_cons]
  by_cases h1 : 0 ≤ y ∧ y ≤ i - 1
  ·rw [if_neg (fun h => h h1)]
   simp only [h1, true_and, and_self]
  ·rw [if_pos h1, if_neg (fun h => h1 h.1)]
theorem form_q7 {d : List tDecl} {g : Bool} {a b c e f : Int} {w ks : List Int} (R : Nat → Bool → Prop) (S : Nat → List tDecl → Int → Int → Int → Int → Int → List Int → List Int → Prop) :
  Ev (fun n => spec_l3Form.q7 n d g a b c e f w ks (R n) (S n)) ↔ if g = true then Ev (fun n => R n false) else Ev (fun n => S n d a b c e f w ks) := by
 refine Ev.suc.trans ?_
 simp only [spec_l3Form.q7, spec_l3Form.q7.b, Ev.iteI, Ev.s1 R, Ev.s8 S]
theorem form_q8 {d : List tDecl} {a b c e f : Int} {w ks : List Int} (hd : d.length ≤ 1099511627776) (hw : Wd w) (R : Nat → Bool → Prop) :
  Ev (fun n => spec_l3Form.q8 n d a b c e f w ks (R n)) ↔ Ev (fun n => R n (kindB d (a, b, c, e, f, w, ks))) := by
 refine Ev.suc.trans ?_
 simp (disch := first | assumption | omega) only [spec_l3Form.q8, spec_l3Form.q8.b, Ev.iteI, decide_eq_true_eq, l1In_ev, l3One_ev, specOk_ev, wrap64, Ev.s1 R]
 have key : ∀ (b' : Bool), (b' = true ↔ kindB d (a, b, c, e, f, w, ks) = true) → ((Ev fun n => R n b') ↔ Ev fun n => R n (kindB d (a, b, c, e, f, w, ks))) := fun b' h => by
  rw [Bool.eq_iff_iff.2 h]
 simp only [kindB, decide_eq_true_eq] at key
 (repeat' split) <;> refine key _ ?_ <;> first
  | (simp only [decide_eq_true_eq, Bool.false_eq_true, false_iff]; omega)
  | (simp only [decide_eq_true_eq, Bool.false_eq_true, false_iff]; constructor <;> intro h <;> simp_all <;> omega)
  | (simp_all; done) | (simp_all; omega)
theorem form_ev {d : List tDecl} {i a b c e f : Int} {w ks : List Int} (hd : d.length ≤ 1099511627776) (hw : Wd w) (hl : ks.length ≤ 1099511627776) (hi0 : 0 ≤ i) (hi : i ≤ 1048576) (R : Nat → Bool → Prop) :
  Ev (fun n => spec_l3Form.c n d a b c e f w ks i (R n)) ↔ Ev (fun n => R n (kidsIn i ks && plainB (a, b, c, e, f, w, ks) && kindB d (a, b, c, e, f, w, ks))) := by
 refine Ev.suc.trans ?_
 simp only [spec_l3Form.c, spec_l3Form.w]
 rw [form_lp hl hi0 hi ks 0 rfl (by omega)]
 by_cases hk : kidsIn i ks = true
 ·rw [if_pos hk, hk, Bool.true_and]
  simp only [Ev.iteI, Bool.not_eq_true', Bool.not_eq_false', decide_eq_true_eq, decide_eq_false_iff_not, noBits_ev, l3One_ev, form_q7, form_q8 hd hw, Ev.s1 R, Bool.false_eq_true, if_false, if_true]
  have T : plainB (a, b, c, e, f, w, ks) = true → ((Ev fun n => R n (kindB d (a, b, c, e, f, w, ks))) ↔ Ev fun n => R n (plainB (a, b, c, e, f, w, ks) && kindB d (a, b, c, e, f, w, ks))) := fun h => by rw [h, Bool.true_and]
  have F : plainB (a, b, c, e, f, w, ks) = false → ((Ev fun n => R n false) ↔ Ev fun n => R n (plainB (a, b, c, e, f, w, ks) && kindB d (a, b, c, e, f, w, ks))) := fun h => by rw [h, Bool.false_and]
  simp only [plainB, decide_eq_true_eq, decide_eq_false_iff_not] at T F
  (repeat' split) <;> first
   | (refine T ?_; omega)
   | (refine F ?_; omega)
 ·rw [if_neg hk, show kidsIn i ks = false from by simpa using hk, Bool.false_and, Bool.false_and, Ev.s1 R]
end Go.Vsi
end

section
set_option linter.unusedVariables false
set_option linter.unusedSimpArgs false
set_option synthInstance.maxSize 4096
namespace Go.Vsi
def WOk (l : List Int) : Prop := ∀ w ∈ l, 1 ≤ w ∧ w ≤ 4096
theorem WOk.cons {y : Int} {r : List Int} (h : WOk (y :: r)) : (1 ≤ y ∧ y ≤ 4096) ∧ WOk r := ⟨h y List.mem_cons_self, fun w hw => h w (List.mem_cons_of_mem _ hw)⟩
def capSum (s : Int) : List Int → Int
 | [] => s
 | y :: r => capSum (if s + y < 8192 then s + y else 8192) r
theorem sum_ge : ∀ {l : List Int}, WOk l → (l.length : Int) ≤ l.sum
 | [], _ => by simp
 | y :: r, h => by
  have := sum_ge h.cons.2
  have := h.cons.1
  rw [List.sum_cons, List.length_cons]; omega
theorem capSum_big : ∀ {r : List Int}, WOk r → capSum 8192 r = 8192
 | [], _ => rfl
 | y :: r, h => by
  have := h.cons.1
  rw [capSum, if_neg (by omega), capSum_big h.cons.2]
theorem capSum_eq : ∀ {l : List Int} {s : Int}, 0 ≤ s → s ≤ 8192 → WOk l → capSum s l = if s + l.sum < 8192 then s + l.sum else 8192
 | [], s, h0, h1, hw => by
  rw [capSum, List.sum_nil]; split <;> omega
 | y :: r, s, h0, h1, hw => by
  have hy := hw.cons.1
  have hr := hw.cons.2
  have hs := sum_ge hr
  rw [capSum, List.sum_cons]
  by_cases h : s + y < 8192
  ·rw [if_pos h, capSum_eq (by omega) (by omega) hr]
   simp only [Int.add_assoc]
  ·rw [if_neg h, capSum_big hr, if_neg (by omega)]
def acc (w : Int) : Option Int := if 1 ≤ w ∧ w ≤ 4096 then some w else none
def specW (d : List tDecl) (x : tTNode) (s : Int) : Int :=
 if x.1 = 1 then (rd d x.2.1.toNat).2
 else if x.1 = 2 then x.2.2.2.2.1
 else if x.1 = 4 then (if x.2.2.2.1 < 0 ∨ x.2.2.1 < x.2.2.2.1 ∨ x.2.2.1 ≥ s then -1 else x.2.2.1 - x.2.2.2.1 + 1)
 else if x.1 = 5 ∨ x.1 = 6 then (if 0 ≤ x.2.2.1 ∧ x.2.2.1 ≤ 4096 then s + x.2.2.1 else -1)
 else if x.1 = 7 ∨ x.1 = 8 then (if 0 ≤ x.2.2.1 ∧ x.2.2.1 ≤ 4096 then s else -1)
 else if x.1 = 9 then (if 1 ≤ x.2.2.1 ∧ x.2.2.1 ≤ 4096 then s * x.2.2.1 else -1)
 else s
theorem node_one {d : List tDecl} {x : tTNode} {w : Int} (h1 : 4 ≤ x.1) (h2 : x.1 ≤ 9) : nodeW d x [w] = specW d x w := by
 have e : rd [w] 0 = w := rfl
 have e1 : [w].length = 1 := rfl
 rw [nodeW, e, e1, if_neg (by omega), if_neg (by omega), if_neg (by omega), if_neg (by omega), specW, if_neg (c := x.1 = 1) (by omega), if_neg (c := x.1 = 2) (by omega)]
 have h : x.1 = 4 ∨ x.1 = 5 ∨ x.1 = 6 ∨ x.1 = 7 ∨ x.1 = 8 ∨ x.1 = 9 := by omega
 rcases h with h | h | h | h | h | h
 ·rw [if_pos (c := x.1 = 4) h]
  by_cases c : 0 ≤ x.2.2.2.1 ∧ x.2.2.2.1 ≤ x.2.2.1 ∧ x.2.2.1 < w
  ·rw [if_pos ⟨h, c⟩, if_neg (by omega)]
  ·rw [if_neg (fun hh => c hh.2), if_neg (by omega), if_neg (by omega), if_neg (by omega), if_pos (by omega)]
 all_goals
  rw [if_neg (c := x.1 = 4) (by omega), if_neg (by omega)]
 ·rw [if_pos (c := x.1 = 5 ∨ x.1 = 6) (by omega)]
  by_cases c : 0 ≤ x.2.2.1 ∧ x.2.2.1 ≤ 4096
  ·rw [if_pos ⟨Or.inl h, c⟩, if_pos c]
  ·rw [if_neg (fun hh => c hh.2), if_neg (by omega), if_neg (by omega), if_neg c]
 ·rw [if_pos (c := x.1 = 5 ∨ x.1 = 6) (by omega)]
  by_cases c : 0 ≤ x.2.2.1 ∧ x.2.2.1 ≤ 4096
  ·rw [if_pos ⟨Or.inr h, c⟩, if_pos c]
  ·rw [if_neg (fun hh => c hh.2), if_neg (by omega), if_neg (by omega), if_neg c]
 ·rw [if_neg (c := x.1 = 5 ∨ x.1 = 6) (by omega), if_neg (by omega), if_pos (c := x.1 = 7 ∨ x.1 = 8) (by omega)]
  by_cases c : 0 ≤ x.2.2.1 ∧ x.2.2.1 ≤ 4096
  ·rw [if_pos ⟨Or.inl h, c⟩, if_pos c]
  ·rw [if_neg (fun hh => c hh.2), if_neg (by omega), if_neg c]
 ·rw [if_neg (c := x.1 = 5 ∨ x.1 = 6) (by omega), if_neg (by omega), if_pos (c := x.1 = 7 ∨ x.1 = 8) (by omega)]
  by_cases c : 0 ≤ x.2.2.1 ∧ x.2.2.1 ≤ 4096
  ·rw [if_pos ⟨Or.inr h, c⟩, if_pos c]
  ·rw [if_neg (fun hh => c hh.2), if_neg (by omega), if_neg c]
 ·rw [if_neg (c := x.1 = 5 ∨ x.1 = 6) (by omega), if_neg (by omega), if_neg (by omega), if_neg (c := x.1 = 7 ∨ x.1 = 8) (by omega), if_pos (c := x.1 = 9) h]
  by_cases c : 1 ≤ x.2.2.1 ∧ x.2.2.1 ≤ 4096
  ·rw [if_pos ⟨h, c⟩, if_pos c]
  ·rw [if_neg (fun hh => c hh.2), if_neg c]
theorem step_eq {d : List tDecl} {x : tTNode} {kw : List Int} (hw : WOk kw) (hl : kw.length = x.2.2.2.2.2.2.length) :
  (if x.2.2.2.2.2.2.length ≤ 4096 then acc (nodeW d x kw) else none) = if kindB d x = true then acc (specW d x (capSum 0 kw)) else none := by
 rw [← hl]
 rw [capSum_eq (by omega) (by omega) hw, Int.zero_add]
 have hs := sum_ge hw
 by_cases hk : kindB d x = true
 ·rw [if_pos hk]
  rw [kindB, decide_eq_true_eq, ← hl] at hk
  rcases hk with ⟨h1, h2, h3, h4⟩ | ⟨h1, h2, h3⟩ | ⟨h1, h2⟩ | ⟨h1, h2, h3⟩
  ·rw [if_pos (by omega), nodeW, if_pos ⟨h1, h2, h3, h4⟩, specW, if_pos h1]
  ·rw [if_pos (by omega), nodeW, if_neg (by omega), if_pos ⟨h1, h2, h3⟩, specW, if_neg (by omega), if_pos h1]
  ·have hn : nodeW d x kw = kw.sum := by rw [nodeW, if_neg (by omega), if_neg (by omega), if_pos (by omega)]
   have hq : ∀ s, specW d x s = s := fun s => by rw [specW, if_neg (by omega), if_neg (by omega), if_neg (by omega), if_neg (by omega), if_neg (by omega), if_neg (by omega)]
   rw [hn, hq]
   unfold acc
   (repeat' split) <;> first | rfl | (exfalso; omega)
  ·rw [if_pos (by omega)]
   match kw, h3, hw with
   | [w], _, hw =>
    have h := hw w List.mem_cons_self
    have hs : (if [w].sum < 8192 then [w].sum else 8192) = w := by
     simp only [List.sum_cons, List.sum_nil, Int.add_zero]; rw [if_pos (by omega)]
    rw [hs]
    have hn := node_one (d := d) (x := x) (w := w) h1 h2
    rw [hn]
 ·rw [if_neg hk]
  rw [kindB, decide_eq_true_eq, ← hl] at hk
  have : nodeW d x kw = -1 := by
   rw [nodeW, if_neg (by omega), if_neg (by rintro ⟨h1, h2, h3⟩; exact hk (Or.inr (Or.inl ⟨h1, h2, h3⟩))), if_neg (by omega)]
   by_cases h1 : kw.length ≠ 1
   ·rw [if_pos h1]
   ·rw [if_neg h1, if_neg (by omega), if_neg (by omega), if_neg (by omega), if_neg (by omega)]
  rw [this]
  split <;> rfl
def stepW (d : List tDecl) (x : tTNode) (wide : List Int) : Option Int :=
 if kidsIn wide.length x.2.2.2.2.2.2 = true ∧ plainB x = true ∧ kindB d x = true then acc (specW d x (capSum 0 (x.2.2.2.2.2.2.map fun k => rd wide k.toNat))) else none
def setAll (u : List Bool) : List Int → List Bool
 | [] => u
 | k :: r => setAll (u.set k.toNat true) r
theorem setAll_len : ∀ {ks : List Int} {u : List Bool}, (setAll u ks).length = u.length
 | [], u => rfl
 | k :: r, u => by rw [setAll, setAll_len, List.length_set]
def widthsGo (d : List tDecl) : List tTNode → List Int → List Bool → Option (List Int × List Bool)
 | [], wide, used => some (wide, used)
 | x :: r, wide, used => match stepW d x wide with
  | some w => widthsGo d r (wide ++ [w]) (setAll used x.2.2.2.2.2.2)
  | none => none
theorem rd_mem {l : List Int} {k : Int} (h0 : 0 ≤ k) (h1 : k < (l.length : Int)) : rd l k.toNat ∈ l := by
 rw [rd, List.getD_eq_getElem?_getD, List.getElem?_eq_getElem (by omega)]
 exact List.getElem_mem _
theorem rd_app {α : Type} [Inhabited α] {a b : List α} {k : Nat} (h : k < a.length) : rd (a ++ b) k = rd a k := by
 rw [rd, rd, List.getD_eq_getElem?_getD, List.getD_eq_getElem?_getD, List.getElem?_append_left h]
theorem kids_wok {wide ks : List Int} (hw : WOk wide) (hk : kidsIn wide.length ks = true) : WOk (ks.map fun k => rd wide k.toNat) := by
 intro w hw'
 obtain ⟨k, hk', rfl⟩ := List.mem_map.1 hw'
 rw [kidsIn, List.all_eq_true] at hk
 have := hk k hk'
 rw [decide_eq_true_eq] at this
 exact hw _ (rd_mem this.1 (by omega))
theorem acc_some {w v : Int} (h : acc w = some v) : v = w ∧ 1 ≤ w ∧ w ≤ 4096 := by
 unfold acc at h
 split at h
 ·rename_i hh; cases h; exact ⟨rfl, hh⟩
 ·cases h
theorem stepW_ok {d : List tDecl} {x : tTNode} {wide : List Int} {w : Int} (h : stepW d x wide = some w) : 1 ≤ w ∧ w ≤ 4096 := by
 unfold stepW at h
 split at h
 ·obtain ⟨rfl, h1⟩ := acc_some h; exact h1
 ·cases h
theorem WOk.app {wide : List Int} {w : Int} (h : WOk wide) (hw : 1 ≤ w ∧ w ≤ 4096) : WOk (wide ++ [w]) := by
 intro v hv
 rcases List.mem_append.1 hv with hv | hv
 ·exact h v hv
 ·rw [List.mem_singleton] at hv; subst hv; exact hw
theorem widthsGo_ok {d : List tDecl} : ∀ {ys : List tTNode} {wide : List Int} {used : List Bool} {r : List Int × List Bool}, WOk wide → widthsGo d ys wide used = some r → WOk r.1 ∧ r.1.length = wide.length + ys.length ∧ r.2.length = used.length
 | [], wide, used, r, hw, h => by
  rw [widthsGo] at h; cases h; exact ⟨hw, rfl, rfl⟩
 | x :: ys, wide, used, r, hw, h => by
  rw [widthsGo] at h
  cases hs : stepW d x wide with
  | none => rw [hs] at h; cases h
  | some w =>
   rw [hs] at h
   obtain ⟨h1, h2, h3⟩ := widthsGo_ok (hw.app (stepW_ok hs)) h
   refine ⟨h1, ?_, ?_⟩
   ·rw [h2]; simp; omega
   ·rw [h3, setAll_len]
theorem kids_lp {d : List tDecl} {m i a b : Int} {x : tTNode} {ks out : List Int} {nodes : List tTNode} (hl : ks.length ≤ 4096) (hi0 : 0 ≤ i) (hi : i ≤ (out.length : Int)) (hi' : i ≤ 1048576) : ∀ (ys : List Int) (j : Int) (used : List Bool) (kw : List Int), ks.drop j.toNat = ys → 0 ≤ j → i ≤ (used.length : Int) → kw.length = ks.length →
  ∀ (Kx : Nat → List tDecl → Int → Int → tTNode → Int → Int → List Int → List Bool → List Int → List tTNode → Prop) (Kr : Nat → Bool → List Int → Prop),
  (Ev (fun n => impl_widths.l13 n d m i x a b ks ks.length out nodes j used kw (Kx n) (Kr n)) ↔
   if kidsIn i ys = true then Ev (fun n => Kx n d m i x a b out (setAll used ys) (kw.take j.toNat ++ ys.map fun k => rd out k.toNat) nodes) else Ev (fun n => Kr n false []))
 | [], j, used, kw, h, h0, hu, hkw, Kx, Kr => by
  have := drop_nil h h0
  refine Ev.suc.trans ?_
  simp (disch := omega) only [impl_widths.l13, impl_widths.l13.b, if_neg, decide_eq_true_eq, Ev.s10 Kx, kidsIn, List.all_nil, if_true, setAll, List.map_nil, List.append_nil]
  rw [List.take_of_length_le (by omega)]
 | y :: ys, j, used, kw, h, h0, hu, hkw, Kx, Kr => by
  obtain ⟨e1, e2, e3⟩ := drop_cons h h0
  refine Ev.suc.trans ?_
  simp (disch := omega) only [impl_widths.l13, impl_widths.l13.b, if_pos, decide_eq_true_eq, decide_eq_false_iff_not, Bool.not_eq_true', grd_dec2, e2, wrap64, inside_ev, Ev.iteI, Ev.s2 Kr]
  by_cases h1 : 0 ≤ y ∧ y ≤ i - 1
  ·rw [if_neg (fun h => h h1)]
   rw [kids_lp hl hi0 hi hi' ys (j + 1) _ _ e3 (by omega) (by simpa using hu) (by simpa using hkw), Ev.s10 Kx, Ev.s2 Kr, take_set (by omega) (by omega)]
   simp only [kidsIn_cons, h1, and_self, true_and, setAll, List.map_cons, List.append_assoc, List.singleton_append]
  ·rw [if_pos h1, if_neg]
   rw [kidsIn_cons]
   exact fun h => h1 h.1
theorem widths_lp {d : List tDecl} {t : List tTNode} (hd : d.length ≤ 1099511627776) (ht : t.length ≤ 400) : ∀ (ys : List tTNode) (wide z : List Int) (used : List Bool), t.drop wide.length = ys → (wide ++ z).length = t.length → used.length = t.length → WOk wide →
  ∀ (Kx : Nat → Int → List Int → List Bool → Prop) (Kr : Nat → Bool → List Int → Prop),
  (Ev (fun n => impl_widths.l6 n d t.length t.length wide.length (wide ++ z) used t (Kx n) (Kr n)) ↔ match widthsGo d ys wide used with
   | some r => Ev (fun n => Kx n t.length r.1 r.2)
   | none => Ev (fun n => Kr n false []))
 | [], wide, z, used, h, hz, hu, hw, Kx, Kr => by
  have hle := List.drop_eq_nil_iff.1 h
  have hz0 : z = [] := by
   rw [List.length_append] at hz
   exact List.eq_nil_of_length_eq_zero (by omega)
  subst hz0
  refine Ev.suc.trans ?_
  simp (disch := omega) only [impl_widths.l6, impl_widths.l6.b, if_neg, decide_eq_true_eq, Ev.s3 Kx, widthsGo, List.append_nil]
 | x :: ys, wide, z, used, h, hz, hu, hw, Kx, Kr => by
  have h' : t.drop (wide.length : Int).toNat = x :: ys := h
  obtain ⟨e1, e2, e3⟩ := drop_cons h' (by omega)
  have e2' : rd t wide.length = x := e2
  rw [List.length_append] at hz
  refine Ev.suc.trans ?_
  simp (disch := omega) only [impl_widths.l6, impl_widths.l6.b, if_pos, decide_eq_true_eq, Ev.iteI, grd_dec2, Int.toNat_natCast, e2', Ev.s2 Kr]
  rw [widthsGo]
  have hse := step_eq (d := d) (x := x) (kw := x.2.2.2.2.2.2.map fun k => rd wide k.toNat)
  by_cases hk : x.2.2.2.2.2.2.length ≤ 4096
  ·rw [if_neg (by omega)]
   simp (disch := omega) only [grd_dec2, decide_true, Bool.and_true]
   rw [kids_lp hk (by omega) (by rw [List.length_append]; omega) (by omega) x.2.2.2.2.2.2 0 _ _ rfl (by omega) (by omega) (by simp), Ev.s2 Kr]
   by_cases hin : kidsIn wide.length x.2.2.2.2.2.2 = true
   ·rw [if_pos hin]
    have hwk := kids_wok hw hin
    have hmap : (x.2.2.2.2.2.2.map fun k => rd (wide ++ z) k.toNat) = x.2.2.2.2.2.2.map fun k => rd wide k.toNat := by
     apply List.map_congr_left
     intro k hk'
     rw [kidsIn, List.all_eq_true] at hin
     have := hin k hk'
     rw [decide_eq_true_eq] at this
     exact rd_app (by omega)
    have hse := hse hwk (by simp)
    rw [if_pos hk] at hse
    simp only [Int.toNat_zero, List.take_zero, List.nil_append, hmap]
    simp (disch := first | assumption | (simp only [List.length_map, List.length_append, List.length_set]; omega) | omega) only [width_ev hd (by simpa using hk) (fun w hw' => ⟨by have := hwk w hw'; omega, (hwk w hw').2⟩), plain_ev, Ev.iteI, Bool.not_eq_false', grd_dec2, rd_set, Int.toNat_natCast, inside_ev, Bool.not_eq_true', decide_eq_false_iff_not, wrap64, Ev.s2 Kr]
    by_cases hp : plainB x = true
    ·rw [if_pos hp]
     have hst : stepW d x wide = acc (nodeW d x (x.2.2.2.2.2.2.map fun k => rd wide k.toNat)) := by
      rw [hse, stepW]
      by_cases hkb : kindB d x = true
      ·rw [if_pos ⟨hin, hp, hkb⟩, if_pos hkb]
      ·rw [if_neg (fun h => hkb h.2.2), if_neg hkb]
     by_cases hacc : 1 ≤ nodeW d x (x.2.2.2.2.2.2.map fun k => rd wide k.toNat) ∧ nodeW d x (x.2.2.2.2.2.2.map fun k => rd wide k.toNat) ≤ 4096
     ·rw [if_neg (fun h => h hacc)]
      rw [hst, acc, if_pos hacc]
      simp only []
      match z, hz with
      | [], hz => simp at hz; omega
      | v :: z, hz =>
       have es : (wide ++ v :: z).set wide.length (nodeW d x (x.2.2.2.2.2.2.map fun k => rd wide k.toNat)) = (wide ++ [nodeW d x (x.2.2.2.2.2.2.map fun k => rd wide k.toNat)]) ++ z := by
        rw [List.set_append_right _ _ (Nat.le_refl _), Nat.sub_self, List.set_cons_zero, List.append_assoc]; rfl
       rw [es]
       have el : ((wide.length : Int) + 1) = ((wide ++ [nodeW d x (x.2.2.2.2.2.2.map fun k => rd wide k.toNat)]).length : Int) := by simp
       rw [el, widths_lp hd ht ys _ z _ (by rw [← e3, List.length_append]; rfl) (by simp at hz ⊢; omega) (by rw [setAll_len]; exact hu) (hw.app hacc)]
       cases widthsGo d ys (wide ++ [nodeW d x (x.2.2.2.2.2.2.map fun k => rd wide k.toNat)]) (setAll used x.2.2.2.2.2.2) with
       | none => exact Ev.s2 Kr _ _
       | some r => exact Ev.s3 Kx _ _ _
     ·rw [if_pos hacc, hst, acc, if_neg hacc]
    ·rw [if_neg hp, stepW, if_neg (fun h => hp h.2.1)]
   ·rw [if_neg hin, stepW, if_neg (fun h => hin h.1)]
  ·rw [if_pos (by omega)]
   have : stepW d x wide = none := by
    unfold stepW
    split
    ·rename_i hh
     have hse := hse (kids_wok hw hh.1) (by simp)
     rw [if_neg hk, if_pos hh.2.2] at hse
     exact hse.symm
    ·rfl
   rw [this]
end Go.Vsi
end

section
set_option linter.unusedVariables false
set_option linter.unusedSimpArgs false
set_option synthInstance.maxSize 4096
namespace Go.Vsi
theorem slices_Index_bool_lp {l : List Bool} {v : Bool} (hl : l.length ≤ 1099511627776) : ∀ (ys : List Bool) (x : Int), l.drop x.toNat = ys → 0 ≤ x →
  ∀ (Kx : Nat → Prop) (Kr : Nat → Int → Prop),
  (Ev (fun n => slices_Index_bool.l2 n l v l.length x (Kx n) (Kr n)) ↔ if firstIx (fun y => v == y) ys x < 0 then Ev Kx else Ev (fun n => Kr n (firstIx (fun y => v == y) ys x)))
 | [], x, h, h0, Kx, Kr => by
  have := drop_nil h h0
  rw [firstIx, if_pos (by decide)]
  refine Ev.suc.trans ?_
  simp (disch := omega) only [slices_Index_bool.l2, slices_Index_bool.l2.b, if_neg, decide_eq_true_eq, Ev.s0 Kx]
 | y :: ys, x, h, h0, Kx, Kr => by
  obtain ⟨e1, e2, e3⟩ := drop_cons h h0
  refine Ev.suc.trans ?_
  simp (disch := first | omega | omega) only [slices_Index_bool.l2, slices_Index_bool.l2.b, if_pos, decide_eq_true_eq, grd_dec2, e2, wrap64, Ev.s1 Kr, Ev.s0 Kx, Ev.iteI]
  rw [slices_Index_bool_lp hl ys (x + 1) e3 (by omega), Ev.s0 Kx, Ev.s1 Kr]
  simp only [firstIx, decide_eq_true_eq]
  split
  ·rw [if_neg (by omega)]
  ·rfl
theorem slices_Index_bool_ev {l : List Bool} {v : Bool} (hl : l.length ≤ 1099511627776) (R : Nat → Int → Prop) :
  Ev (fun n => slices_Index_bool.c n l v (R n)) ↔ Ev (fun n => R n (firstIx (fun y => v == y) l 0)) := by
 refine Ev.suc.trans ?_
 simp only [slices_Index_bool.c, slices_Index_bool.w]
 rw [slices_Index_bool_lp hl l 0 rfl (by omega), Ev.s1 R, Ev.s1 R]
 split
 ·rw [firstIx_neg (by omega) ‹_›]
 ·rfl
theorem slices_Contains_bool_ev {l : List Bool} {v : Bool} (hl : l.length ≤ 1099511627776) (R : Nat → Bool → Prop) :
  Ev (fun n => slices_Contains_bool.c n l v (R n)) ↔ Ev (fun n => R n (l.any fun y => v == y)) := by
 refine Ev.suc.trans ?_
 simp only [slices_Contains_bool.c, slices_Contains_bool.w]
 rw [slices_Index_bool_ev hl, Ev.s1 R, firstIx_any (by omega)]
theorem any_false (l : List Bool) : (!(l.any fun y => false == y)) = l.all id := by
 induction l with
 | nil => rfl
 | cons a l ih => rw [List.any_cons, List.all_cons, Bool.not_or, ih]; cases a <;> rfl
def widthsI (d : List tDecl) (t : List tTNode) : List Int × Bool :=
 if 1 ≤ t.length ∧ t.length ≤ 400 then (match widthsGo d t [] (List.replicate t.length false) with
  | some r => (r.1, (r.2.take (t.length - 1)).all id)
  | none => ([], false)) else ([], false)
theorem widths_ev {d : List tDecl} {t : List tTNode} (hd : d.length ≤ 1099511627776) (R : Nat → List Int → Bool → Prop) :
  Ev (fun n => impl_widths.c n d t (R n)) ↔ Ev (fun n => R n (widthsI d t).1 (widthsI d t).2) := by
 refine Ev.suc.trans ?_
 simp only [impl_widths.c, impl_widths.w, Ev.iteI, decide_eq_true_eq, decide_eq_false_iff_not, Ev.s2 R, widthsI]
 by_cases hl : 1 ≤ t.length ∧ t.length ≤ 400
 ·rw [if_pos (by omega), if_neg (by omega), if_pos hl]
  have lp := fun (Kx : Nat → Int → List Int → List Bool → Prop) (Kr : Nat → Bool → List Int → Prop) => widths_lp hd hl.2 t [] (List.replicate t.length 0) (List.replicate t.length false) rfl (by simp) (by simp) (fun w hw => by cases hw) Kx Kr
  simp only [List.length_nil, List.nil_append, Int.natCast_zero] at lp
  simp (disch := omega) only [impl_widths.j1, impl_widths.j0, grd_dec2, decide_true, Bool.and_true, and_self, Int.toNat_natCast]
  rw [lp]
  cases hg : widthsGo d t [] (List.replicate t.length false) with
  | none => exact Ev.s2 R _ _
  | some r =>
   obtain ⟨h1, h2, h3⟩ := widthsGo_ok (fun w hw => by cases hw) hg
   rw [List.length_replicate] at h3
   simp (disch := omega) only [wrap64, grd_dec3]
   rw [slices_Contains_bool_ev (by simp; omega), Ev.s2 R]
   rw [any_false, List.drop_zero, show ((t.length : Int) - 1).toNat = t.length - 1 from by omega]
 ·rw [if_neg hl]
  split
  ·rw [if_pos (by omega)]
  ·rfl
theorem wideS_lp {d : List tDecl} {wide : List Int} {a b c e f : Int} {w ks : List Int} (hl : ks.length ≤ 1099511627776) (hw : WOk wide) : ∀ (ys : List Int) (s x : Int), ks.drop x.toNat = ys → 0 ≤ x → 0 ≤ s → s ≤ 8192 → kidsIn wide.length ys = true →
  ∀ (Kx : Nat → List tDecl → Int → Int → Int → Int → Int → Int → List Int → List Int → Prop),
  (Ev (fun n => spec_l3Wide.l3 n d wide a b c e f w ks s x (Kx n)) ↔ Ev (fun n => Kx n d (capSum s (ys.map fun k => rd wide k.toNat)) a b c e f w ks))
 | [], s, x, h, h0, hs, hs', hk, Kx => by
  have := drop_nil h h0
  refine Ev.suc.trans ?_
  simp (disch := omega) only [spec_l3Wide.l3, spec_l3Wide.l3.b, if_neg, decide_eq_true_eq, Ev.s9 Kx, List.map_nil, capSum]
 | y :: ys, s, x, h, h0, hs, hs', hk, Kx => by
  obtain ⟨e1, e2, e3⟩ := drop_cons h h0
  rw [kidsIn_cons] at hk
  have hy := hw _ (rd_mem hk.1.1 (show y < (wide.length : Int) by omega))
  refine Ev.suc.trans ?_
  simp (disch := omega) only [spec_l3Wide.l3, spec_l3Wide.l3.b, if_pos, decide_eq_true_eq, grd_dec2, e2, wrap64]
  rw [wideS_lp hl hw ys _ (x + 1) e3 (by omega) (by split <;> omega) (by split <;> omega) hk.2, Ev.s9 Kx, List.map_cons, capSum]
theorem wideS_ev {d : List tDecl} {wide : List Int} {a b c e f : Int} {w ks : List Int} (hd : d.length ≤ 1099511627776) (hl : ks.length ≤ 1099511627776) (hw : WOk wide) (hk : kidsIn wide.length ks = true) (hkb : kindB d (a, b, c, e, f, w, ks) = true) (R : Nat → Int → Prop) :
  Ev (fun n => spec_l3Wide.c n d a b c e f w ks wide (R n)) ↔ Ev (fun n => R n (specW d (a, b, c, e, f, w, ks) (capSum 0 (ks.map fun k => rd wide k.toNat)))) := by
 refine Ev.suc.trans ?_
 simp only [spec_l3Wide.c, spec_l3Wide.w]
 rw [wideS_lp hl hw ks 0 0 rfl (by omega) (by omega) (by omega) hk]
 have hs : 0 ≤ capSum 0 (ks.map fun k => rd wide k.toNat) ∧ capSum 0 (ks.map fun k => rd wide k.toNat) ≤ 8192 := by
  have hwk := kids_wok hw hk
  have := sum_ge hwk
  rw [capSum_eq (by omega) (by omega) hwk]
  split <;> omega
 generalize capSum 0 (ks.map fun k => rd wide k.toNat) = s at hs
 rw [kindB, decide_eq_true_eq] at hkb
 simp only [] at hkb
 simp only [spec_l3Wide.j2, spec_l3Wide.j3, Ev.iteI, decide_eq_true_eq, decide_eq_false_iff_not, Bool.not_eq_true', l1In_ev, Ev.s1 R, if_true]
 rw [specW]
 simp only []
 by_cases h1 : a = 1
 ·rw [if_pos h1, if_pos h1]
  simp (disch := omega) only [grd_dec2, Ev.s1 R]
 rw [if_neg h1, if_neg h1]
 by_cases h2 : a = 2
 ·rw [if_pos h2, if_pos h2]
 rw [if_neg h2, if_neg h2]
 by_cases h4 : a = 4
 ·rw [if_pos h4, if_pos h4]
  by_cases g1 : e < 0
  ·rw [if_neg (by omega), if_pos (Or.inl g1)]
  rw [if_pos g1]
  by_cases g2 : c < e
  ·rw [if_neg (by omega), if_pos (Or.inr (Or.inl g2))]
  rw [if_pos g2]
  by_cases g3 : c ≥ s
  ·rw [if_pos g3, if_pos (Or.inr (Or.inr g3))]
  rw [if_neg g3, if_neg (by omega), wrap64 (x := c - e) (by omega) (by omega), wrap64 (by omega) (by omega)]
 rw [if_neg h4, if_neg h4]
 have hm : 1 ≤ c ∧ c ≤ 4096 → IntKind.wrap .i64 (s * c) = s * c := fun h => by
  have := mulB hs.1 hs.2 (show 0 ≤ c by omega) h.2
  exact wrap64 (by omega) (by omega)
 have hp : 0 ≤ c ∧ c ≤ 4096 → IntKind.wrap .i64 (s + c) = s + c := fun h => wrap64 (by omega) (by omega)
 have key56 : (if ¬ (0 ≤ c ∧ c ≤ 4096) then Ev fun n => R n (-1) else Ev fun n => R n (IntKind.wrap .i64 (s + c))) ↔ Ev fun n => R n (if 0 ≤ c ∧ c ≤ 4096 then s + c else -1) := by
  by_cases g : 0 ≤ c ∧ c ≤ 4096
  ·rw [if_neg (fun h => h g), if_pos g, hp g]
  ·rw [if_pos g, if_neg g]
 have key78 : (if ¬ (0 ≤ c ∧ c ≤ 4096) then Ev fun n => R n (-1) else Ev fun n => R n s) ↔ Ev fun n => R n (if 0 ≤ c ∧ c ≤ 4096 then s else -1) := by
  by_cases g : 0 ≤ c ∧ c ≤ 4096
  ·rw [if_neg (fun h => h g), if_pos g]
  ·rw [if_pos g, if_neg g]
 have key9 : (if ¬ (1 ≤ c ∧ c ≤ 4096) then Ev fun n => R n (-1) else Ev fun n => R n (IntKind.wrap .i64 (s * c))) ↔ Ev fun n => R n (if 1 ≤ c ∧ c ≤ 4096 then s * c else -1) := by
  by_cases g : 1 ≤ c ∧ c ≤ 4096
  ·rw [if_neg (fun h => h g), if_pos g, hm g]
  ·rw [if_pos g, if_neg g]
 by_cases h5 : a = 5
 ·rw [if_pos h5, if_pos (Or.inl h5)]; exact key56
 rw [if_neg h5]
 by_cases h6 : a = 6
 ·rw [if_pos h6, if_pos (Or.inr h6)]; exact key56
 rw [if_neg h6, if_neg (show ¬ (a = 5 ∨ a = 6) by omega)]
 by_cases h7 : a = 7
 ·rw [if_pos h7, if_pos (Or.inl h7)]; exact key78
 rw [if_neg h7]
 by_cases h8 : a = 8
 ·rw [if_pos h8, if_pos (Or.inr h8)]; exact key78
 rw [if_neg h8, if_neg (show ¬ (a = 7 ∨ a = 8) by omega)]
 by_cases h9 : a = 9
 ·rw [if_pos h9, if_pos h9]; exact key9
 rw [if_neg h9, if_neg h9]
theorem usedS_lp {d : List tDecl} {i : Int} {o wide : List Int} {t : List tTNode} {x : tTNode} (hi0 : 0 ≤ i) (hi : i < (t.length : Int)) (hx : rd t i.toNat = x) (hl : x.2.2.2.2.2.2.length ≤ 1099511627776) : ∀ (ys : List Int) (j : Int) (used : List Bool), x.2.2.2.2.2.2.drop j.toNat = ys → 0 ≤ j → used.length = t.length → kidsIn i ys = true →
  ∀ (Kx : Nat → List tDecl → Int → List Int → List Bool → List Int → List tTNode → Prop),
  (Ev (fun n => spec_l3Widths.l16 n d i o wide t j used (Kx n)) ↔ Ev (fun n => Kx n d i o (setAll used ys) wide t))
 | [], j, used, h, h0, hu, hk, Kx => by
  have := drop_nil h h0
  refine Ev.suc.trans ?_
  simp (disch := omega) only [spec_l3Widths.l16, spec_l3Widths.l16.b, grd_dec2, hx, if_neg, decide_eq_true_eq, Ev.s6 Kx, setAll]
 | y :: ys, j, used, h, h0, hu, hk, Kx => by
  obtain ⟨e1, e2, e3⟩ := drop_cons h h0
  rw [kidsIn_cons] at hk
  refine Ev.suc.trans ?_
  simp (disch := omega) only [spec_l3Widths.l16, spec_l3Widths.l16.b, grd_dec2, hx, if_pos, decide_eq_true_eq, e2, wrap64]
  rw [usedS_lp hi0 hi hx hl ys (j + 1) _ e3 (by omega) (by simpa using hu) hk.2, Ev.s6 Kx, setAll]
theorem widthsS_lp {d : List tDecl} {t : List tTNode} (hd : d.length ≤ 1099511627776) (ht : t.length ≤ 400) (hg : ∀ x : tTNode, x ∈ t → Wd x.2.2.2.2.2.1 ∧ x.2.2.2.2.2.2.length ≤ 1099511627776) : ∀ (ys : List tTNode) (wide : List Int) (used : List Bool), t.drop wide.length = ys → (∀ x : tTNode, x ∈ ys → Wd x.2.2.2.2.2.1 ∧ x.2.2.2.2.2.2.length ≤ 1099511627776) → used.length = t.length → WOk wide →
  ∀ (Kx : Nat → List Int → List Int → List Bool → Prop) (Kr : Nat → List Int → Prop),
  (Ev (fun n => spec_l3Widths.l7 n d wide.length wide [] used t (Kx n) (Kr n)) ↔ match widthsGo d ys wide used with
   | some r => Ev (fun n => Kx n r.1 [] r.2)
   | none => Ev (fun n => Kr n []))
 | [], wide, used, h, hy, hu, hw, Kx, Kr => by
  have hle := List.drop_eq_nil_iff.1 h
  refine Ev.suc.trans ?_
  simp (disch := omega) only [spec_l3Widths.l7, spec_l3Widths.l7.b, if_neg, decide_eq_true_eq, Ev.s3 Kx, widthsGo]
 | x :: ys, wide, used, h, hy, hu, hw, Kx, Kr => by
  have h' : t.drop (wide.length : Int).toNat = x :: ys := h
  obtain ⟨e1, e2, e3⟩ := drop_cons h' (by omega)
  have e2' : rd t wide.length = x := e2
  have hx := hy x List.mem_cons_self
  refine Ev.suc.trans ?_
  simp (disch := first | exact hx.1 | exact hx.2 | omega) only [spec_l3Widths.l7, spec_l3Widths.l7.b, if_pos, decide_eq_true_eq, Ev.iteI, grd_dec2, Int.toNat_natCast, e2', Ev.s1 Kr, form_ev, Bool.not_eq_true']
  rw [widthsGo]
  by_cases hf : kidsIn wide.length x.2.2.2.2.2.2 = true ∧ plainB x = true ∧ kindB d x = true
  ·obtain ⟨f1, f2, f3⟩ := hf
   have e : (kidsIn (wide.length : Int) x.2.2.2.2.2.2 && plainB (x.1, x.2.1, x.2.2.1, x.2.2.2.1, x.2.2.2.2.1, x.2.2.2.2.2.1, x.2.2.2.2.2.2) && kindB d (x.1, x.2.1, x.2.2.1, x.2.2.2.1, x.2.2.2.2.1, x.2.2.2.2.2.1, x.2.2.2.2.2.2)) = true := by
    rw [f1, show plainB (x.1, x.2.1, x.2.2.1, x.2.2.2.1, x.2.2.2.2.1, x.2.2.2.2.2.1, x.2.2.2.2.2.2) = true from f2, show kindB d (x.1, x.2.1, x.2.2.1, x.2.2.2.1, x.2.2.2.2.1, x.2.2.2.2.2.1, x.2.2.2.2.2.2) = true from f3]; rfl
   rw [e, if_neg (by decide)]
   have hwi := fun (R : Nat → Int → Prop) => wideS_ev (wide := wide) hd hx.2 hw f1 f3 R
   simp (disch := omega) only [hwi, l1In_ev, Ev.iteI, Bool.not_eq_true', decide_eq_false_iff_not, Ev.s1 Kr, grd_dec]
   have hst : stepW d x wide = acc (specW d x (capSum 0 (x.2.2.2.2.2.2.map fun k => rd wide k.toNat))) := by
    rw [stepW, if_pos ⟨f1, f2, f3⟩]
   rw [hst]
   generalize hv : specW d x (capSum 0 (x.2.2.2.2.2.2.map fun k => rd wide k.toNat)) = v
   by_cases hacc : 1 ≤ v ∧ v ≤ 4096
   ·rw [if_neg (fun h => h hacc), acc, if_pos hacc]
    simp only []
    simp (disch := (simp only [List.length_cons, List.length_nil]; omega)) only [grd_dec]
    rw [usedS_lp (by omega) e1 e2 hx.2 _ 0 used rfl (by omega) hu f1]
    have el : IntKind.wrap .i64 ((wide.length : Int) + 1) = ((wide ++ [v]).length : Int) := by
     rw [wrap64 (by omega) (by omega)]; simp
    rw [el, widthsS_lp hd ht hg ys (wide ++ [v]) _ (by rw [← e3, List.length_append]; rfl) (fun x hx' => hy x (List.mem_cons_of_mem _ hx')) (by rw [setAll_len]; exact hu) (hw.app hacc)]
    simp only [Int.toNat_zero, List.drop_zero]
    cases widthsGo d ys (wide ++ [v]) (setAll used x.2.2.2.2.2.2) with
    | none => exact Ev.s1 Kr _
    | some r => exact Ev.s3 Kx _ _ _
   ·rw [if_pos hacc, acc, if_neg hacc]
  ·have e : (kidsIn (wide.length : Int) x.2.2.2.2.2.2 && plainB (x.1, x.2.1, x.2.2.1, x.2.2.2.1, x.2.2.2.2.1, x.2.2.2.2.2.1, x.2.2.2.2.2.2) && kindB d (x.1, x.2.1, x.2.2.1, x.2.2.2.1, x.2.2.2.2.1, x.2.2.2.2.2.1, x.2.2.2.2.2.2)) = false := by
    rw [Bool.eq_false_iff]
    intro h
    rw [Bool.and_eq_true, Bool.and_eq_true] at h
    exact hf ⟨h.1.1, h.1.2, h.2⟩
   rw [if_pos e, stepW, if_neg hf]
theorem allS_lp {wide : List Int} {used : List Bool} (hl : used.length ≤ 1048576) (h1 : 1 ≤ used.length) : ∀ (m : Nat) (i : Int), i + m = (used.length : Int) - 1 → 0 ≤ i → ∀ (Kx Kr : Nat → List Int → Prop),
  (Ev (fun n => spec_l3Widths.l20 n wide [] used i (Kx n) (Kr n)) ↔ if ((used.take (used.length - 1)).drop i.toNat).all id = true then Ev (fun n => Kx n wide) else Ev (fun n => Kr n []))
 | 0, i, h, h0, Kx, Kr => by
  refine Ev.suc.trans ?_
  simp (disch := omega) only [spec_l3Widths.l20, spec_l3Widths.l20.b, wrap64, if_neg, decide_eq_true_eq, Ev.s1 Kx]
  rw [List.drop_eq_nil_of_le (by simp; omega)]
  simp
 | m + 1, i, h, h0, Kx, Kr => by
  refine Ev.suc.trans ?_
  have hk : i.toNat < (used.take (used.length - 1)).length := by simp; omega
  have e : (used.take (used.length - 1)).drop i.toNat = rd used i.toNat :: (used.take (used.length - 1)).drop (i + 1).toNat := by
   rw [List.drop_eq_getElem_cons hk, show (i + 1).toNat = i.toNat + 1 from by omega]
   congr 1
   rw [List.getElem_take, rd, List.getD_eq_getElem?_getD, List.getElem?_eq_getElem (by omega)]; rfl
  simp (disch := omega) only [spec_l3Widths.l20, spec_l3Widths.l20.b, wrap64, if_pos, decide_eq_true_eq, grd_dec2, Ev.iteI, Bool.not_eq_true', Ev.s1 Kr, e]
  rw [allS_lp hl h1 m (i + 1) (by omega) (by omega), Ev.s1 Kx, Ev.s1 Kr, List.all_cons, id]
  cases rd used i.toNat <;> simp
theorem widthsS_ev {d : List tDecl} {t : List tTNode} (hd : d.length ≤ 1099511627776) (hg : ∀ x : tTNode, x ∈ t → Wd x.2.2.2.2.2.1 ∧ x.2.2.2.2.2.2.length ≤ 1099511627776) (R : Nat → List Int → Prop) :
  Ev (fun n => spec_l3Widths.c n d t (R n)) ↔ Ev (fun n => R n (if declsOk d = true ∧ (widthsI d t).2 = true then (widthsI d t).1 else [])) := by
 refine Ev.suc.trans ?_
 simp only [spec_l3Widths.c, spec_l3Widths.w, declsOkS_ev, Ev.iteI, decide_eq_true_eq, decide_eq_false_iff_not, Bool.not_eq_false', Ev.s1 R, widthsI]
 by_cases h : declsOk d = true
 ·rw [if_pos h]
  by_cases hl : 1 ≤ t.length ∧ t.length ≤ 400
  ·rw [if_pos (by omega), if_neg (by omega)]
   simp only [if_pos hl]
   have lp := fun (Kx : Nat → List Int → List Int → List Bool → Prop) (Kr : Nat → List Int → Prop) => widthsS_lp hd hl.2 hg t [] (List.replicate t.length false) rfl hg (by simp) (fun w hw => by cases hw) Kx Kr
   simp only [List.length_nil] at lp
   simp only [Int.natCast_zero] at lp
   simp (disch := omega) only [spec_l3Widths.j0, grd_dec2, decide_true, Bool.and_true, Int.toNat_natCast]
   rw [lp]
   cases hg' : widthsGo d t [] (List.replicate t.length false) with
   | none => simp only [h, Bool.false_eq_true, and_false, if_false]; exact Ev.s1 R _
   | some r =>
    obtain ⟨h1, h2, h3⟩ := widthsGo_ok (fun w hw => by cases hw) hg'
    rw [List.length_replicate] at h3
    simp only [h, true_and]
    rw [allS_lp (by omega) (by omega) (t.length - 1) 0 (by omega) (by omega), Ev.s1 R, Ev.s1 R, h3]
    simp only [Int.toNat_zero, List.drop_zero]
    split <;> rfl
  ·simp only [if_neg hl, Bool.false_eq_true, and_false, if_false]
   split
   ·rw [if_pos (by omega)]
   ·rfl
 ·rw [if_neg h]
  simp only [h, false_and, if_false]
  rw [if_neg (by simp)]
end Go.Vsi
end

section
set_option linter.unusedVariables false
set_option linter.unusedSimpArgs false
set_option synthInstance.maxSize 4096
namespace Go.Vsi
def LOk (l : List Int) : Prop := ∀ w ∈ l, 0 ≤ w ∧ w ≤ 1000000
theorem LOk.app {acc : List Int} {w : Int} (h : LOk acc) (hw : 0 ≤ w ∧ w ≤ 1000000) : LOk (acc ++ [w]) := by
 intro v hv
 rcases List.mem_append.1 hv with hv | hv
 ·exact h v hv
 ·rw [List.mem_singleton] at hv; subst hv; exact hw
theorem rd_mid {α : Type} [Inhabited α] {a z : List α} {v : α} : rd (a ++ v :: z) a.length = v := by
 rw [rd, List.getD_eq_getElem?_getD, List.getElem?_append_right (Nat.le_refl _), Nat.sub_self]; rfl
end Go.Vsi
end

section
set_option linter.unusedVariables false
set_option linter.unusedSimpArgs false
set_option synthInstance.maxSize 4096
namespace Go.Vsi
theorem bitsOk_Ok {w : Int} {ws : List Nat} (hw : Below 18446744073709551616 ws) : bitsOk w (W ws) = true ↔ Ok w ws := by
 rw [bitsOk_W hw]
 exact ⟨fun ⟨a, b, c, d⟩ => ⟨a, b, c, hw, d⟩, fun h => ⟨h.lo, h.hi, h.len, h.top⟩⟩
theorem bitsOk_ok {w : Int} {l : List Int} (hw : Wd l) (h : bitsOk w l = true) : ∃ ws, l = W ws ∧ Ok w ws := by
 obtain ⟨ws, rfl, hB⟩ := hw.of
 exact ⟨ws, rfl, (bitsOk_Ok hB).1 h⟩
theorem Ok.bits {w : Int} {ws : List Nat} (h : Ok w ws) : bitsOk w (W ws) = true := (bitsOk_Ok h.words).2 h
theorem or_lt {a b : Nat} (ha : a < 18446744073709551616) (hb : b < 18446744073709551616) : a ||| b < 18446744073709551616 :=
 Nat.or_lt_two_pow (n := 64) ha hb
end Go.Vsi
end

section
set_option linter.unusedVariables false
set_option linter.unusedSimpArgs false
set_option synthInstance.maxSize 4096
namespace Go.Vsi
end Go.Vsi
end

section
set_option linter.unusedVariables false
set_option linter.unusedSimpArgs false
set_option synthInstance.maxSize 4096
namespace Go.Vsi
theorem list_lp {w : Nat} {ws : List Nat} (hw : Below 18446744073709551616 ws) (hl : ws.length ≤ 4096) (hwl : w ≤ 64 * ws.length) : ∀ (m k : Nat), k + m = w → ∀ R : Nat → List Int → Prop,
  (Ev (fun n => spec_l1List.l3 n w (W ws) k (bl k (bit ws)) (R n)) ↔ Ev (fun n => R n (bl w (bit ws))))
 | 0, k, h, R => by
  obtain rfl : k = w := by omega
  refine Ev.suc.trans ?_
  simp (disch := omega) only [spec_l1List.l3, spec_l1List.l3.b, if_neg, decide_eq_true_eq, Ev.s1 R]
 | m + 1, k, h, R => by
  have ek : IntKind.wrap .i64 ((k : Int) + 1) = ((k + 1 : Nat) : Int) := wrap64 (by omega) (by omega)
  have e : bl k (bit ws) ++ [(((bit ws k).toNat : Nat) : Int)] = bl (k + 1) (bit ws) := by
   rw [bl_one, bl_app]
   refine bl_ext fun i hi => ?_
   split
   ·rfl
   ·congr 1; omega
  refine Ev.suc.trans ?_
  simp (disch := first | omega | (simp only [bl_len, List.length_cons, List.length_nil]; omega)) only [spec_l1List.l3, spec_l1List.l3.b, if_pos, decide_eq_true_eq, l1Bit_ev hw _ hl, grd_dec, ek, e]
  rw [list_lp hw hl hwl m (k + 1) (by omega), Ev.s1 R]
theorem list_ev {w : Nat} {ws : List Nat} (h : Ok w ws) (R : Nat → List Int → Prop) :
  Ev (fun n => spec_l1List.c n w (W ws) (R n)) ↔ Ev (fun n => R n (bl w (bit ws))) := by
 have hlen := h.len
 have hhi := h.hi
 have k := list_lp (w := w) h.words (by omega) (by omega) w 0 (by omega) (fun n => R (n + 1))
 simp only [Int.natCast_zero, bl_zero] at k
 refine Ev.suc.trans ?_
 simp only [spec_l1List.c, spec_l1List.w]
 rw [k, Ev.s1 R]
theorem from_lp {w : Nat} {f : Nat → Bool} (hw : w ≤ 4096) {x7 : List Int} {x8 x9 : Int} : ∀ (m k : Nat), k + m = w → ∀ o : List Nat, o.length = (w + 63) / 64 → Below 18446744073709551616 o → (∀ i, bit o i = (decide (i < k) && f i)) →
  ∃ o' : List Nat, o'.length = (w + 63) / 64 ∧ Below 18446744073709551616 o' ∧ (∀ i, bit o' i = (decide (i < w) && f i)) ∧
   ∀ R : Nat → List Int → List Int → Int → Int → Prop, (Ev (fun n => spec_l1From.l5 n (bl w f) x7 x8 x9 k (W o) (R n)) ↔ Ev (fun n => R n (W o') x7 x8 x9))
 | 0, k, h, o, ho, hB, hb => by
  obtain rfl : k = w := by omega
  refine ⟨o, ho, hB, hb, fun R => ?_⟩
  refine Ev.suc.trans ?_
  simp (disch := omega) only [spec_l1From.l5, spec_l1From.l5.b, bl_len, if_neg, decide_eq_true_eq, Ev.s4 R]
 | m + 1, k, h, o, ho, hB, hb => by
  have bo : o.getD (k / 64) 0 < 18446744073709551616 := hB.getD (by decide) _
  have hx : (f k).toNat <<< (k % 64) < 18446744073709551616 := by
   have h1 : 1 <<< (k % 64) < 18446744073709551616 := by
    rw [Nat.shiftLeft_eq, Nat.one_mul]; exact Nat.pow_lt_pow_right (a := 2) (by decide) (by omega : k % 64 < 64)
   cases f k
   ·simp
   ·exact h1
  have hb1 : ∀ i, bit (o.set (k / 64) (o.getD (k / 64) 0 ||| ((f k).toNat <<< (k % 64)))) i = (decide (i < k + 1) && f i) := fun i => by
   rw [bit_set (by omega)]
   split
   ·rename_i hi
    rw [Nat.testBit_or, Nat.testBit_shiftLeft, toNat_testBit, show (o.getD (k / 64) 0).testBit (i % 64) = bit o i from by rw [bit, hi], hb]
    rcases Nat.lt_trichotomy i k with hik | rfl | hik
    ·have n1 : i < k + 1 := by omega
     have n2 : ¬ k % 64 ≤ i % 64 := by omega
     simp [hik, n1, n2]
    ·simp
    ·have n1 : ¬ i < k := by omega
     have n2 : ¬ i < k + 1 := by omega
     have n3 : ¬ i % 64 - k % 64 = 0 := by omega
     simp [n1, n2, n3]
   ·rename_i hi
    rw [hb]
    by_cases hik : i < k
    ·have n1 : i < k + 1 := by omega
     simp [hik, n1]
    ·have n1 : ¬ i < k + 1 := by
      intro h'; have : i = k := by omega
      exact hi (by rw [this])
     simp [hik, n1]
  obtain ⟨o', b1, b2, b3, kk⟩ := from_lp hw (x7 := x7) (x8 := x8) (x9 := x9) m (k + 1) (by omega) _ (by rw [List.length_set]; exact ho) (hB.set (or_lt bo hx)) hb1
  refine ⟨o', b1, b2, b3, fun R => ?_⟩
  have e1 : Int.toNat ((k : Int) / 64) = k / 64 := by omega
  have e2 : Int.toNat ((k : Int) % 64) = k % 64 := by omega
  have ek : IntKind.wrap .i64 ((k : Int) + 1) = ((k + 1 : Nat) : Int) := wrap64 (by omega) (by omega)
  have er : rd (bl w f) k = (((f k).toNat : Nat) : Int) := bl_rd (by omega)
  have et : IntKind.wrap .u64 (((f k).toNat : Nat) : Int) = (((f k).toNat : Nat) : Int) := by cases f k <;> rfl
  have es := shl_W (f k).toNat (k % 64) (by omega)
  rw [Nat.mod_eq_of_lt hx] at es
  refine Ev.suc.trans ?_
  simp (disch := omega) only [spec_l1From.l5, spec_l1From.l5.b, bl_len, if_pos, decide_eq_true_eq, tdivP, tmodP, wrap64, wrapU, grd_dec2, grd_dec, e1, e2, ek, W_len, W_rd, Int.toNat_natCast, er, et, es]
  rw [or_W bo hx, W_set]
  rw [kk, Ev.s4 R]
theorem from_ev {w : Nat} {f : Nat → Bool} (h1 : 1 ≤ w) (h2 : w ≤ 4096) (R : Nat → Int → List Int → Bool → Prop) :
  Ev (fun n => spec_l1From.c n (bl w f) (R n)) ↔ Ev (fun n => R n w (W (pk w f)) true) := by
 obtain ⟨o, a1, a2, a3, k⟩ := from_lp h2 (f := f) (x7 := []) (x8 := 0) (x9 := (w : Int)) w 0 (by omega) (List.replicate ((w + 63) / 64) 0) (by simp) (Below.rep (by decide)) (fun i => by rw [bit_rep]; simp)
 have ho : o = pk w f := by
  refine pk_of ⟨by omega, by omega, by omega, a2, fun i hi => ?_⟩ fun i hi => ?_
  ·rw [a3, decide_eq_false (show ¬ i < w by omega)]; rfl
  ·rw [a3, decide_eq_true hi]; rfl
 simp only [Int.natCast_zero] at k
 have e : IntKind.wrap .i64 (Int.tdiv (IntKind.wrap .i64 ((w : Int) + 63)) 64) = (((w + 63) / 64 : Nat) : Int) := by
  rw [wrap64 (x := (w : Int) + 63) (by omega) (by omega), tdivP (by omega), wrap64 (by omega) (by omega)]; omega
 refine Ev.suc.trans ?_
 simp only [spec_l1From.c, spec_l1From.w, spec_l1From.j0, Ev.iteI, decide_eq_true_eq, decide_eq_false_iff_not, bl_len]
 rw [if_pos (by omega), if_neg (by omega)]
 simp (disch := omega) only [e, decide_true, Bool.and_true, grd_dec2, Int.toNat_natCast, W_rep]
 rw [k, ho, Ev.s3 R]
theorem partS_ev {w : Int} {ws : List Nat} (h : Ok w ws) {low v : Nat} {hi lo : Int} (hv : 1 ≤ v) (hlv : (low : Int) + v ≤ w) (e1 : lo = low) (e2 : hi = (low : Int) + v - 1) (R : Nat → Int → List Int → Bool → Prop) :
  Ev (fun n => spec_PartOf.c n w (W ws) hi lo (R n)) ↔ Ev (fun n => R n v (W (cutW ws low v)) true) := by
 have hlo := h.lo
 have hhi := h.hi
 obtain ⟨w', rfl⟩ : ∃ w' : Nat, w = w' := ⟨w.toNat, by omega⟩
 subst e1; subst e2
 refine Ev.suc.trans ?_
 simp only [spec_PartOf.c, spec_PartOf.w, spec_PartOf.j0, Ev.iteI, decide_eq_true_eq, decide_eq_false_iff_not, specOk_ev (w := (w' : Int)) (l := W ws) (fun x hx => by
  obtain ⟨y, hy, rfl⟩ := List.mem_map.1 hx; have := h.words y hy; exact ⟨by simp, by simp; omega⟩), h.bits, Bool.not_true, if_true]
 rw [if_pos (by omega), if_pos (by omega), if_neg (by omega), list_ev h, wrap64 (x := (low : Int) + v - 1 + 1) (by omega) (by omega), bl_len]
 simp (disch := omega) only [grd_dec4']
 rw [show ((low : Int) + v - 1 + 1).toNat = low + v from by omega, bl_take _ _ _ (by omega), Int.toNat_natCast, bl_drop, show low + v - low = v from by omega, from_ev (by omega) (by omega), Ev.s3 R]; rfl
theorem wd_W {ws : List Nat} (h : Below 18446744073709551616 ws) : Wd (W ws) := fun x hx => by
 obtain ⟨y, hy, rfl⟩ := List.mem_map.1 hx
 have := h y hy
 constructor
 ·exact Int.natCast_nonneg _
 ·show ((y : Nat) : Int) ≤ _
  omega
theorem joinS_ev {u v : Nat} {hs ls : List Nat} (hh : Ok u hs) (hl : Ok v ls) (huv : u + v ≤ 4096) (R : Nat → Int → List Int → Bool → Prop) :
  Ev (fun n => spec_JoinBits.c n u (W hs) v (W ls) (R n)) ↔ Ev (fun n => R n ((u + v : Nat) : Int) (W (overW u hs v ls)) true) := by
 have hu := hh.lo
 have hv := hl.lo
 refine Ev.suc.trans ?_
 simp only [spec_JoinBits.c, spec_JoinBits.w, spec_JoinBits.j0, Ev.iteI, specOk_ev (wd_W hh.words), specOk_ev (wd_W hl.words), hh.bits, hl.bits, Bool.not_true, Bool.false_eq_true, if_true, if_false, and_self, Ev.andI]
 rw [list_ev hl, list_ev hh]
 simp (disch := (simp only [bl_len]; omega)) only [grd_dec]
 rw [bl_app, from_ev (by omega) (by omega), Ev.s3 R]
 rw [show ((v + u : Nat) : Int) = ((u + v : Nat) : Int) from by omega, overW, show v + u = u + v from by omega]
theorem turnS_lp {w m : Nat} {f : Nat → Bool} (hm : m ≤ 4096) (hw : w ≤ 4096) (h1 : 1 ≤ w) {x15 : List Int} {x16 : Int} : ∀ (d k : Nat), k + d = w → ∀ o : List Int, o.length = w → (∀ i, i < w → (i + (w - m % w)) % w < k → rd o i = ((f ((i + (w - m % w)) % w)).toNat : Int)) →
  ∀ R : Nat → List Int → List Int → Int → Prop, (Ev (fun n => spec_TurnBits.l6 n m (bl w f) x15 x16 k o (R n)) ↔ Ev (fun n => R n (bl w fun i => f ((i + (w - m % w)) % w)) x15 x16))
 | 0, k, h, o, ho, hinv, R => by
  have : o = bl w fun i => f ((i + (w - m % w)) % w) := bl_of ho fun i hi => hinv i hi (by have := Nat.mod_lt (i + (w - m % w)) (show w > 0 by omega); omega)
  refine Ev.suc.trans ?_
  simp (disch := omega) only [spec_TurnBits.l6, spec_TurnBits.l6.b, bl_len, if_neg, decide_eq_true_eq, Ev.s3 R, this]
 | d + 1, k, h, o, ho, hinv, R => by
  have et : Int.tmod (IntKind.wrap .i64 ((k : Int) + (m : Int))) (w : Int) = (((k + m) % w : Nat) : Int) := by
   rw [wrap64 (by omega) (by omega), tmodP (by omega)]; rfl
  have hlt : (k + m) % w < w := Nat.mod_lt _ (by omega)
  have ek : IntKind.wrap .i64 ((k : Int) + 1) = ((k + 1 : Nat) : Int) := wrap64 (by omega) (by omega)
  have er : rd (bl w f) k = (((f k).toNat : Nat) : Int) := bl_rd (by omega)
  have hmw : m % w < w := Nat.mod_lt _ (by omega)
  have back : ((k + m) % w + (w - m % w)) % w = k := by
   rw [Nat.mod_add_mod, show k + m + (w - m % w) = k + w + (m - m % w) from by have := Nat.mod_le m w; omega]
   have : m - m % w = w * (m / w) := by have := Nat.div_add_mod m w; omega
   rw [this, Nat.add_mul_mod_self_left, Nat.add_mod_right, Nat.mod_eq_of_lt (by omega)]
  have inj : ∀ i, i < w → (i + (w - m % w)) % w = k → i = (k + m) % w := fun i hi e => by
   subst e
   rw [Nat.mod_add_mod, show i + (w - m % w) + m = i + w + (m - m % w) from by have := Nat.mod_le m w; omega]
   have : m - m % w = w * (m / w) := by have := Nat.div_add_mod m w; omega
   rw [this, Nat.add_mul_mod_self_left, Nat.add_mod_right, Nat.mod_eq_of_lt hi]
  refine Ev.suc.trans ?_
  simp (disch := omega) only [spec_TurnBits.l6, spec_TurnBits.l6.b, bl_len, if_pos, decide_eq_true_eq, et, ek, Int.toNat_natCast, er, grd_not, grd_dec2]
  rw [turnS_lp hm hw h1 d (k + 1) (by omega) _ (by rw [List.length_set]; exact ho) (fun i hi hik => by
   have hset : rd (o.set ((k + m) % w) (((f k).toNat : Nat) : Int)) i = if i = (k + m) % w then (((f k).toNat : Nat) : Int) else rd o i := by
    simp only [rd, List.getD_eq_getElem?_getD, List.getElem?_set]
    by_cases hj : i = (k + m) % w
    ·rw [if_pos hj.symm, if_pos (by omega), if_pos hj]; rfl
    ·rw [if_neg (fun e => hj e.symm), if_neg hj]
   rw [hset]
   split
   ·rename_i e; subst e; rw [back]
   ·rename_i e
    refine hinv i hi ?_
    have : (i + (w - m % w)) % w ≠ k := fun h' => e (inj i hi h')
    omega), Ev.s3 R]
theorem turnS_ev {w : Nat} {ws : List Nat} (h : Ok w ws) {m : Nat} (hm : m ≤ 4096) (R : Nat → Int → List Int → Bool → Prop) :
  Ev (fun n => spec_TurnBits.c n w (W ws) m (R n)) ↔ Ev (fun n => R n w (W (turnW w ws m)) true) := by
 have hlo := h.lo
 have hhi := h.hi
 have k := fun (R : Nat → List Int → List Int → Int → Prop) => turnS_lp (w := w) (m := m) (f := bit ws) (x15 := []) (x16 := 0) hm (by omega) (by omega) w 0 (by omega) (List.replicate w 0) (by simp) (fun i hi hh => absurd hh (Nat.not_lt_zero _)) R
 simp only [Int.natCast_zero] at k
 refine Ev.suc.trans ?_
 simp only [spec_TurnBits.c, spec_TurnBits.w, spec_TurnBits.j0, Ev.iteI, specOk_ev (wd_W h.words), h.bits, l1In_ev, Bool.not_true, Bool.not_eq_true', decide_eq_false_iff_not, if_true]
 rw [if_neg (by omega), list_ev h, bl_len]
 simp (disch := omega) only [decide_true, Bool.and_true, grd_dec2, Int.toNat_natCast, k]
 rw [from_ev (by omega) (by omega), Ev.s3 R]; rfl
theorem repeatS_lp {w r : Nat} {f : Nat → Bool} (h1 : 1 ≤ w) (hr : r * w ≤ 4096) {x20 : List Int} {x21 : Int} : ∀ (d k : Nat), k + d = r → ∀ R : Nat → List Int → List Int → Int → Prop,
  (Ev (fun n => spec_RepeatBits.l6 n r (bl w f) x20 x21 k (bl (k * w) fun i => f (i % w)) (R n)) ↔ Ev (fun n => R n (bl (r * w) fun i => f (i % w)) x20 x21))
 | 0, k, h, R => by
  obtain rfl : k = r := by omega
  refine Ev.suc.trans ?_
  simp (disch := omega) only [spec_RepeatBits.l6, spec_RepeatBits.l6.b, if_neg, decide_eq_true_eq, Ev.s3 R]
 | d + 1, k, h, R => by
  have hk1 : (k + 1) * w ≤ r * w := Nat.mul_le_mul_right w (by omega)
  rw [Nat.add_mul, Nat.one_mul] at hk1
  have hrr : r ≤ r * w := Nat.le_mul_of_pos_right r (by omega)
  have ek : IntKind.wrap .i64 ((k : Int) + 1) = ((k + 1 : Nat) : Int) := wrap64 (by omega) (by omega)
  have e : bl (k * w) (fun i => f (i % w)) ++ bl w f = bl ((k + 1) * w) fun i => f (i % w) := by
   rw [bl_app, show k * w + w = (k + 1) * w from by rw [Nat.add_mul, Nat.one_mul]]
   refine bl_ext fun i hi => ?_
   split
   ·rfl
   ·rename_i hk
    congr 1
    rw [Nat.add_mul, Nat.one_mul] at hi
    rw [show i = i - k * w + k * w from by omega, Nat.add_mul_mod_self_right, Nat.mod_eq_of_lt (by omega)]; omega
  refine Ev.suc.trans ?_
  simp (disch := first | omega | (simp only [bl_len]; omega)) only [spec_RepeatBits.l6, spec_RepeatBits.l6.b, if_pos, decide_eq_true_eq, grd_dec, ek, e]
  rw [repeatS_lp h1 hr d (k + 1) (by omega), Ev.s3 R]
theorem repeatS_ev {w : Nat} {ws : List Nat} (h : Ok w ws) {r : Nat} (h1 : 1 ≤ r) (hr : r * w ≤ 4096) (R : Nat → Int → List Int → Bool → Prop) :
  Ev (fun n => spec_RepeatBits.c n w (W ws) r (R n)) ↔ Ev (fun n => R n ((r * w : Nat) : Int) (W (repW w ws r)) true) := by
 have hlo := h.lo
 have hrr : r ≤ r * w := Nat.le_mul_of_pos_right r (by omega)
 have hw1 : w ≤ r * w := Nat.le_mul_of_pos_left w (by omega)
 have em : IntKind.wrap .i64 ((w : Int) * (r : Int)) = ((r * w : Nat) : Int) := by
  rw [Int.mul_comm, ← Int.natCast_mul, wrap64 (by omega) (by omega)]
 have k := fun (R : Nat → List Int → List Int → Int → Prop) => repeatS_lp (w := w) (r := r) (f := bit ws) (x20 := []) (x21 := 0) (by omega) hr r 0 (by omega) R
 simp only [Int.natCast_zero, Nat.zero_mul, bl_zero] at k
 refine Ev.suc.trans ?_
 simp only [spec_RepeatBits.c, spec_RepeatBits.w, spec_RepeatBits.j0, Ev.iteI, specOk_ev (wd_W h.words), h.bits, l1In_ev, Bool.not_true, Bool.not_eq_false', decide_eq_true_eq, if_true, em]
 rw [if_pos (by omega), if_neg (by omega), list_ev h, k, from_ev (by omega) (by omega), Ev.s3 R]; rfl
theorem widenS_lp {w m : Nat} {f : Nat → Bool} {b : Bool} (hm : w + m ≤ 8192) {x23 : List Int} {x24 : Int} : ∀ (d k : Nat), k + d = m → ∀ R : Nat → List Int → List Int → Int → Prop,
  (Ev (fun n => spec_WidenBits.l8 n m (b.toNat : Int) x23 x24 k (bl (w + k) fun i => if i < w then f i else b) (R n)) ↔ Ev (fun n => R n (bl (w + m) fun i => if i < w then f i else b) x23 x24))
 | 0, k, h, R => by
  obtain rfl : k = m := by omega
  refine Ev.suc.trans ?_
  simp (disch := omega) only [spec_WidenBits.l8, spec_WidenBits.l8.b, if_neg, decide_eq_true_eq, Ev.s3 R]
 | d + 1, k, h, R => by
  have ek : IntKind.wrap .i64 ((k : Int) + 1) = ((k + 1 : Nat) : Int) := wrap64 (by omega) (by omega)
  have e : bl (w + k) (fun i => if i < w then f i else b) ++ [((b.toNat : Nat) : Int)] = bl (w + (k + 1)) fun i => if i < w then f i else b := by
   rw [bl_one, bl_app]
   refine bl_ext fun i hi => ?_
   split
   ·rfl
   ·rename_i hk; rw [if_neg (by omega)]
  refine Ev.suc.trans ?_
  simp (disch := first | omega | (simp only [bl_len, List.length_cons, List.length_nil]; omega)) only [spec_WidenBits.l8, spec_WidenBits.l8.b, if_pos, decide_eq_true_eq, grd_dec, ek, e]
  rw [widenS_lp hm d (k + 1) (by omega), Ev.s3 R]
theorem widenS_ev {w : Nat} {ws : List Nat} (h : Ok w ws) {m : Nat} (hr : w + m ≤ 4096) {s : Bool} (R : Nat → Int → List Int → Bool → Prop) :
  Ev (fun n => spec_WidenBits.c n w (W ws) m s (R n)) ↔ Ev (fun n => R n ((w + m : Nat) : Int) (W (widenW w ws m s)) true) := by
 have hlo := h.lo
 have k := fun (b : Bool) (R : Nat → List Int → List Int → Int → Prop) => widenS_lp (w := w) (m := m) (f := bit ws) (b := b) (x23 := []) (x24 := 0) (by omega) m 0 (by omega) R
 have e0 : ∀ b : Bool, bl (w + 0) (fun i => if i < w then bit ws i else b) = bl w (bit ws) := fun b => bl_ext fun i hi => by rw [if_pos (by omega)]
 simp only [Int.natCast_zero, e0] at k
 have e1 : IntKind.wrap .i64 ((w : Int) - 1) = ((w - 1 : Nat) : Int) := by rw [wrap64 (by omega) (by omega)]; omega
 refine Ev.suc.trans ?_
 simp only [spec_WidenBits.c, spec_WidenBits.w, spec_WidenBits.j0, Ev.iteI, specOk_ev (wd_W h.words), h.bits, l1In_ev, Bool.not_true, Bool.not_eq_true', decide_eq_false_iff_not, if_true]
 rw [if_neg (by omega), list_ev h]
 simp only [Ev.iteI, bl_len, e1]
 by_cases hs : s = true
 ·subst hs
  rw [if_pos rfl]
  simp (disch := omega) only [grd_dec2, Int.toNat_natCast, bl_rd, k]
  rw [from_ev (by omega) (by omega), Ev.s3 R]
  rw [widenW]; simp only [Bool.true_and]
 ·have hs' : s = false := by simpa using hs
  subst hs'
  rw [if_neg hs]
  have k0 := k false
  simp only [Bool.toNat_false, Int.natCast_zero] at k0
  rw [k0, from_ev (by omega) (by omega), Ev.s3 R]
  rw [widenW]; simp only [Bool.false_and]
end Go.Vsi
end

section
set_option linter.unusedVariables false
set_option linter.unusedSimpArgs false
set_option synthInstance.maxSize 4096
namespace Go.Vsi
def toN (l : List Int) : List Nat := l.map Int.toNat
theorem toN_W : ∀ ws : List Nat, toN (W ws) = ws
 | [] => rfl
 | w :: ws => by
  have := toN_W ws
  rw [toN, W] at this ⊢
  rw [List.map_cons, List.map_cons, this]; rfl
def RB (b : tBits) : Prop := ∃ ws, b.2 = W ws ∧ Ok b.1 ws
theorem RB.of {b : tBits} (h : RB b) : ∃ (w : Nat) (ws : List Nat), b = ((w : Int), W ws) ∧ Ok w ws ∧ 1 ≤ w ∧ w ≤ 4096 := by
 obtain ⟨ws, h1, h2⟩ := h
 have := h2.lo; have := h2.hi
 refine ⟨b.1.toNat, ws, Prod.ext (by simp only []; omega) h1, ?_, by omega, by omega⟩
 rw [Int.toNat_of_nonneg (by omega)]; exact h2
theorem RB.mk {w : Nat} {ws : List Nat} (h : Ok w ws) : RB ((w : Int), W ws) := ⟨ws, rfl, h⟩
def catB (a b : tBits) : tBits := (((a.1.toNat + b.1.toNat : Nat) : Int), W (overW a.1.toNat (toN a.2) b.1.toNat (toN b.2)))
def cutB (b : tBits) (low v : Int) : tBits := (((v.toNat : Nat) : Int), W (cutW (toN b.2) low.toNat v.toNat))
def turnB (b : tBits) (m : Int) : tBits := (b.1, W (turnW b.1.toNat (toN b.2) m.toNat))
def repB (b : tBits) (r : Int) : tBits := (((r.toNat * b.1.toNat : Nat) : Int), W (repW b.1.toNat (toN b.2) r.toNat))
def widenB (b : tBits) (m : Int) (s : Bool) : tBits := (((b.1.toNat + m.toNat : Nat) : Int), W (widenW b.1.toNat (toN b.2) m.toNat s))
theorem catB_ok {a b : tBits} (ha : RB a) (hb : RB b) (h : a.1 + b.1 ≤ 4096) : RB (catB a b) ∧ (catB a b).1 = a.1 + b.1 := by
 obtain ⟨u, hs, rfl, h1, h2, h3⟩ := ha.of
 obtain ⟨v, ls, rfl, g1, g2, g3⟩ := hb.of
 simp only [catB, Int.toNat_natCast] at h ⊢
 exact ⟨RB.mk (pk_ok _ (by omega) (by omega)), by omega⟩
theorem catS_ev {a b : tBits} (ha : RB a) (hb : RB b) (h : a.1 + b.1 ≤ 4096) (R : Nat → Int → List Int → Bool → Prop) :
  Ev (fun n => spec_JoinBits.c n a.1 a.2 b.1 b.2 (R n)) ↔ Ev (fun n => R n (catB a b).1 (catB a b).2 true) := by
 obtain ⟨u, hs, rfl, h1, h2, h3⟩ := ha.of
 obtain ⟨v, ls, rfl, g1, g2, g3⟩ := hb.of
 simp only [catB, Int.toNat_natCast, toN_W] at h ⊢
 exact joinS_ev h1 g1 (by omega) R
theorem cutS_ev {b : tBits} (hb : RB b) {low hi : Int} (h0 : 0 ≤ low) (h1 : low ≤ hi) (h2 : hi < b.1) (R : Nat → Int → List Int → Bool → Prop) :
  Ev (fun n => spec_PartOf.c n b.1 b.2 hi low (R n)) ↔ Ev (fun n => R n (cutB b low (hi - low + 1)).1 (cutB b low (hi - low + 1)).2 true) := by
 obtain ⟨u, hs, rfl, g1, g2, g3⟩ := hb.of
 simp only [cutB, toN_W] at h2 ⊢
 exact partS_ev g1 (low := low.toNat) (v := (hi - low + 1).toNat) (by omega) (by omega) (by omega) (by omega) R
theorem turnS1_ev {b : tBits} (hb : RB b) {m : Int} (h0 : 0 ≤ m) (h1 : m ≤ 4096) (R : Nat → Int → List Int → Bool → Prop) :
  Ev (fun n => spec_TurnBits.c n b.1 b.2 m (R n)) ↔ Ev (fun n => R n (turnB b m).1 (turnB b m).2 true) := by
 obtain ⟨u, hs, rfl, g1, g2, g3⟩ := hb.of
 simp only [turnB, toN_W, Int.toNat_natCast]
 have := turnS_ev g1 (m := m.toNat) (by omega) R
 rw [Int.toNat_of_nonneg h0] at this
 exact this
theorem turnB_mod {b : tBits} (hb : RB b) {m : Int} (h0 : 0 ≤ m) : turnB b (m % b.1) = turnB b m := by
 obtain ⟨u, hs, rfl, g1, g2, g3⟩ := hb.of
 simp only [turnB, toN_W, Int.toNat_natCast, turnW]
 rw [show (m % (u : Int)).toNat = m.toNat % u from by
  obtain ⟨k, rfl⟩ : ∃ k : Nat, m = k := ⟨m.toNat, by omega⟩
  simp only [Int.toNat_natCast]; rw [← Int.natCast_emod, Int.toNat_natCast], Nat.mod_mod]
theorem repB_nat (u k : Nat) (hs : List Nat) : repB ((u : Int), W hs) (k : Int) = (((k * u : Nat) : Int), W (repW u hs k)) := by
 rw [repB, toN_W]; rfl
theorem repS_ev {b : tBits} (hb : RB b) {r : Int} (h1 : 1 ≤ r) (h2 : b.1 * r ≤ 4096) (R : Nat → Int → List Int → Bool → Prop) :
  Ev (fun n => spec_RepeatBits.c n b.1 b.2 r (R n)) ↔ Ev (fun n => R n (repB b r).1 (repB b r).2 true) := by
 obtain ⟨u, hs, rfl, g1, g2, g3⟩ := hb.of
 obtain ⟨k, rfl⟩ : ∃ k : Nat, r = k := ⟨r.toNat, by omega⟩
 rw [repB_nat]
 have h2 : (u : Int) * k ≤ 4096 := h2
 have h3 : k * u ≤ 4096 := by rw [Int.mul_comm, ← Int.natCast_mul] at h2; omega
 exact repeatS_ev g1 (by omega) h3 R
theorem widenBS_ev {b : tBits} (hb : RB b) {m : Int} {s : Bool} (h0 : 0 ≤ m) (h2 : b.1 + m ≤ 4096) (R : Nat → Int → List Int → Bool → Prop) :
  Ev (fun n => spec_WidenBits.c n b.1 b.2 m s (R n)) ↔ Ev (fun n => R n (widenB b m s).1 (widenB b m s).2 true) := by
 obtain ⟨u, hs, rfl, g1, g2, g3⟩ := hb.of
 simp only [widenB, Int.toNat_natCast, toN_W] at h2 ⊢
 have := widenS_ev g1 (m := m.toNat) (s := s) (by omega) R
 rw [Int.toNat_of_nonneg h0] at this
 exact this
def ValR (d : List tDecl) (v : List tBits) : Prop := v.length = d.length ∧ ∀ i : Nat, i < v.length → RB (rd v i) ∧ (rd v i).1 = (rd d i).2
end Go.Vsi
end

section
set_option linter.unusedVariables false
set_option linter.unusedSimpArgs false
set_option synthInstance.maxSize 4096
namespace Go.Vsi
def applyB (vals : List tBits) (x : tTNode) (kids : List tBits) : tBits :=
 if x.1 = 1 then rd vals x.2.1.toNat
 else if x.1 = 2 then (x.2.2.2.2.1, x.2.2.2.2.2.1)
 else if x.1 = 3 then (kids.drop 1).foldl catB (rd kids 0)
 else if x.1 = 4 then cutB (rd kids 0) x.2.2.2.1 (x.2.2.1 - x.2.2.2.1 + 1)
 else if x.1 = 7 then turnB (rd kids 0) x.2.2.1
 else if x.1 = 8 then turnB (rd kids 0) ((rd kids 0).1 - x.2.2.1 % (rd kids 0).1)
 else if x.1 = 9 then repB (rd kids 0) x.2.2.1
 else widenB (rd kids 0) x.2.2.1 (decide (x.1 = 6))
theorem stepW_node {d : List tDecl} {x : tTNode} {wide : List Int} {w : Int} (hw : WOk wide) (h : stepW d x wide = some w) :
  kidsIn wide.length x.2.2.2.2.2.2 = true ∧ nodeW d x (x.2.2.2.2.2.2.map fun k => rd wide k.toNat) = w ∧ 1 ≤ w ∧ w ≤ 4096 ∧ plainB x = true ∧ x.2.2.2.2.2.2.length ≤ 4096 := by
 unfold stepW at h
 split at h
 ·rename_i hc
  have e := step_eq (d := d) (x := x) (kids_wok hw hc.1) (by simp)
  rw [if_pos hc.2.2, h] at e
  split at e
  ·rename_i hl
   obtain ⟨h1, h2⟩ := acc_some e
   exact ⟨hc.1, h1.symm, by omega, by omega, hc.2.1, hl⟩
  ·cases e
 ·cases h
theorem RB.pos {b : tBits} (h : RB b) : 1 ≤ b.1 ∧ b.1 ≤ 4096 := by obtain ⟨ws, _, h⟩ := h; exact ⟨h.lo, h.hi⟩
theorem catSum_ge : ∀ {l : List tBits}, (∀ b ∈ l, RB b) → 0 ≤ (l.map fun b => b.1).sum
 | [], _ => by simp
 | b :: l, h => by
  have := catSum_ge (l := l) fun c hc => h c (List.mem_cons_of_mem _ hc)
  have := (h b List.mem_cons_self).pos
  rw [List.map_cons, List.sum_cons]; omega
inductive NodeC (d : List tDecl) (x : tTNode) (w : Int) : List tBits → Prop
 | var : x.1 = 1 → 0 ≤ x.2.1 → x.2.1 ≤ (d.length : Int) - 1 → w = (rd d x.2.1.toNat).2 → NodeC d x w []
 | bits : x.1 = 2 → bitsOk x.2.2.2.2.1 x.2.2.2.2.2.1 = true → w = x.2.2.2.2.1 → NodeC d x w []
 | cat (b c : tBits) (l : List tBits) : x.1 = 3 → w = b.1 + ((c :: l).map fun b => b.1).sum → NodeC d x w (b :: c :: l)
 | part (b : tBits) : x.1 = 4 → 0 ≤ x.2.2.2.1 → x.2.2.2.1 ≤ x.2.2.1 → x.2.2.1 < b.1 → w = x.2.2.1 - x.2.2.2.1 + 1 → NodeC d x w [b]
 | wide (b : tBits) : (x.1 = 5 ∨ x.1 = 6) → 0 ≤ x.2.2.1 → x.2.2.1 ≤ 4096 → w = b.1 + x.2.2.1 → NodeC d x w [b]
 | turn (b : tBits) : (x.1 = 7 ∨ x.1 = 8) → 0 ≤ x.2.2.1 → x.2.2.1 ≤ 4096 → w = b.1 → NodeC d x w [b]
 | rep (b : tBits) : x.1 = 9 → 1 ≤ x.2.2.1 → x.2.2.1 ≤ 4096 → w = b.1 * x.2.2.1 → NodeC d x w [b]
theorem node_cases {d : List tDecl} {x : tTNode} {w : Int} {kb : List tBits} (h : nodeW d x (kb.map fun b => b.1) = w) (h1 : 1 ≤ w) : NodeC d x w kb := by
 subst h
 unfold nodeW at h1 ⊢
 by_cases c1 : x.1 = 1 ∧ (kb.map fun b => b.1).length = 0 ∧ 0 ≤ x.2.1 ∧ x.2.1 ≤ (d.length : Int) - 1
 ·rw [if_pos c1] at h1 ⊢
  have : kb = [] := List.eq_nil_of_length_eq_zero (by simpa using c1.2.1)
  subst this
  exact .var c1.1 c1.2.2.1 c1.2.2.2 rfl
 rw [if_neg c1] at h1 ⊢
 by_cases c2 : x.1 = 2 ∧ (kb.map fun b => b.1).length = 0 ∧ bitsOk x.2.2.2.2.1 x.2.2.2.2.2.1 = true
 ·rw [if_pos c2] at h1 ⊢
  have : kb = [] := List.eq_nil_of_length_eq_zero (by simpa using c2.2.1)
  subst this
  exact .bits c2.1 c2.2.2 rfl
 rw [if_neg c2] at h1 ⊢
 by_cases c3 : x.1 = 3 ∧ 1 < (kb.map fun b => b.1).length
 ·rw [if_pos c3] at h1 ⊢
  match kb, c3 with
  | b :: c :: l, c3 => exact .cat b c l c3.1 (by rw [List.map_cons, List.sum_cons])
  | [], c3 => simp at c3
  | [b], c3 => simp at c3
 rw [if_neg c3] at h1 ⊢
 by_cases c4 : (kb.map fun b => b.1).length ≠ 1
 ·rw [if_pos c4] at h1; omega
 rw [if_neg c4] at h1 ⊢
 match kb, c4 with
 | [], c4 => simp at c4
 | b :: c :: l, c4 => simp at c4
 | [b], c4 =>
  have e : rd ([b].map fun b => b.1) 0 = b.1 := rfl
  rw [e] at h1 ⊢
  by_cases c5 : x.1 = 4 ∧ 0 ≤ x.2.2.2.1 ∧ x.2.2.2.1 ≤ x.2.2.1 ∧ x.2.2.1 < b.1
  ·rw [if_pos c5] at h1 ⊢
   exact .part b c5.1 c5.2.1 c5.2.2.1 c5.2.2.2 rfl
  rw [if_neg c5] at h1 ⊢
  by_cases c6 : (x.1 = 5 ∨ x.1 = 6) ∧ 0 ≤ x.2.2.1 ∧ x.2.2.1 ≤ 4096
  ·rw [if_pos c6] at h1 ⊢
   exact .wide b c6.1 c6.2.1 c6.2.2 rfl
  rw [if_neg c6] at h1 ⊢
  by_cases c7 : (x.1 = 7 ∨ x.1 = 8) ∧ 0 ≤ x.2.2.1 ∧ x.2.2.1 ≤ 4096
  ·rw [if_pos c7] at h1 ⊢
   exact .turn b c7.1 c7.2.1 c7.2.2 rfl
  rw [if_neg c7] at h1 ⊢
  by_cases c8 : x.1 = 9 ∧ 1 ≤ x.2.2.1 ∧ x.2.2.1 ≤ 4096
  ·rw [if_pos c8] at h1 ⊢
   exact .rep b c8.1 c8.2.1 c8.2.2 rfl
  rw [if_neg c8] at h1; omega
theorem sub_mod {u a : Int} (hu : 1 ≤ u) (ha : 0 ≤ a) : 0 ≤ u - a % u ∧ u - a % u ≤ u := by
 have := Int.emod_nonneg a (show u ≠ 0 by omega)
 have := Int.emod_lt_of_pos a (show 0 < u by omega)
 omega
end Go.Vsi
end

section
set_option linter.unusedVariables false
set_option linter.unusedSimpArgs false
set_option synthInstance.maxSize 4096
namespace Go.Vsi
theorem catS_lp {l : List tBits} {x19 : List Int} {x20 : Int} (hl : l.length ≤ 1048576) : ∀ (ys : List tBits) (x : Int) (b : tBits), l.drop x.toNat = ys → 0 ≤ x → RB b → (∀ c ∈ ys, RB c) → b.1 + (ys.map fun b => b.1).sum ≤ 4096 →
  ∀ (Kx : Nat → List Int → Int → Int → List Int → Prop), (Ev (fun n => spec_l4Node.l10 n l x19 x20 x b.1 b.2 (Kx n)) ↔ Ev (fun n => Kx n x19 x20 (ys.foldl catB b).1 (ys.foldl catB b).2))
 | [], x, b, h, h0, hb, hy, hs, Kx => by
  have := drop_nil h h0
  refine Ev.suc.trans ?_
  simp (disch := omega) only [spec_l4Node.l10, spec_l4Node.l10.b, if_neg, decide_eq_true_eq, Ev.s4 Kx, List.foldl_nil]
 | c :: ys, x, b, h, h0, hb, hy, hs, Kx => by
  obtain ⟨e1, e2, e3⟩ := drop_cons h h0
  rw [List.map_cons, List.sum_cons] at hs
  have hy' := fun d hd => hy d (List.mem_cons_of_mem _ hd)
  have := catSum_ge (l := ys) hy'
  obtain ⟨g1, g2⟩ := catB_ok hb (hy c List.mem_cons_self) (by omega)
  refine Ev.suc.trans ?_
  simp (disch := omega) only [spec_l4Node.l10, spec_l4Node.l10.b, if_pos, decide_eq_true_eq, grd_dec2, e2, wrap64]
  rw [catS_ev hb (hy c List.mem_cons_self) (by omega), catS_lp hl ys (x + 1) (catB b c) e3 (by omega) g1 hy' (by rw [g2]; omega), Ev.s4 Kx, List.foldl_cons]
theorem applyS_ev {d : List tDecl} {x : tTNode} {w : Int} {kb vals : List tBits} (h : NodeC d x w kb) (hw : w ≤ 4096) (h1 : 1 ≤ w) (hv : ValR d vals) (hk : ∀ b ∈ kb, RB b) (hl : kb.length ≤ 1048576) (R : Nat → Int → List Int → Prop) :
  Ev (fun n => spec_l4Node.c n vals x.1 x.2.1 x.2.2.1 x.2.2.2.1 x.2.2.2.2.1 x.2.2.2.2.2.1 x.2.2.2.2.2.2 kb (R n)) ↔ Ev (fun n => R n (applyB vals x kb).1 (applyB vals x kb).2) := by
 have hv1 := hv.1
 refine Ev.suc.trans ?_
 simp only [spec_l4Node.c, spec_l4Node.w, Ev.iteI, decide_eq_true_eq, Ev.s2 R]
 unfold applyB
 cases h with
 | var c1 c2 c3 c4 =>
  rw [if_pos c1, if_pos c1]
  simp (disch := omega) only [grd_dec2, Ev.s2 R]
 | bits c1 c2 c3 =>
  rw [if_neg (by omega), if_pos c1, if_neg (by omega), if_pos c1]
 | cat b c l c1 c2 =>
  rw [if_neg (by omega), if_neg (by omega), if_pos c1, if_neg (by omega), if_neg (by omega), if_pos c1]
  simp (disch := (simp only [List.length_cons]; omega)) only [grd_dec]
  rw [show ((b :: c :: l).drop 1) = c :: l from rfl, show rd (b :: c :: l) 0 = b from rfl]
  rw [catS_lp hl (c :: l) 1 b rfl (by omega) (hk b List.mem_cons_self) (fun c hc => hk c (List.mem_cons_of_mem _ hc)) (by omega), Ev.s2 R]
 | part b c1 c2 c3 c4 c5 =>
  have hb := (hk b List.mem_cons_self).pos
  have cut := fun R => cutS_ev (hk b List.mem_cons_self) (low := x.2.2.2.1) (hi := x.2.2.1) c2 c3 c4 R
  have e : rd [b] 0 = b := rfl
  simp (disch := first | omega | (simp only [List.length_cons]; omega)) only [grd_dec, if_neg, if_pos, e, cut, Ev.s2 R]
 | wide b c1 c2 c3 c4 =>
  have hb := (hk b List.mem_cons_self).pos
  have e : rd [b] 0 = b := rfl
  by_cases c5 : x.1 = 5
  ·have c6 : ¬ x.1 = 6 := by omega
   have wd := fun R => widenBS_ev (hk b List.mem_cons_self) (m := x.2.2.1) (s := false) c2 (by omega) R
   simp (disch := first | omega | (simp only [List.length_cons]; omega)) only [grd_dec, if_neg, if_pos, e, wd, Ev.s2 R, decide_eq_false c6]
  ·have c6 : x.1 = 6 := by omega
   have wd := fun R => widenBS_ev (hk b List.mem_cons_self) (m := x.2.2.1) (s := true) c2 (by omega) R
   simp (disch := first | omega | (simp only [List.length_cons]; omega)) only [grd_dec, if_neg, if_pos, e, wd, Ev.s2 R, decide_eq_true c6]
 | turn b c1 c2 c3 c4 =>
  have hb := (hk b List.mem_cons_self).pos
  have e : rd [b] 0 = b := rfl
  have sm := sub_mod hb.1 c2
  by_cases c7 : x.1 = 7
  ·have tn := fun R => turnS1_ev (hk b List.mem_cons_self) (m := x.2.2.1) c2 c3 R
   simp (disch := first | omega | (simp only [List.length_cons]; omega)) only [grd_dec, if_neg, if_pos, e, tn, Ev.s2 R]
  ·have c8 : x.1 = 8 := by omega
   have hm1 := Int.emod_nonneg (b.1 - x.2.2.1 % b.1) (show b.1 ≠ 0 by omega)
   have hm2 := Int.emod_lt_of_pos (b.1 - x.2.2.1 % b.1) (show 0 < b.1 by omega)
   have tn := fun R => turnS1_ev (hk b List.mem_cons_self) (m := (b.1 - x.2.2.1 % b.1) % b.1) hm1 (by omega) R
   have ew : IntKind.wrap .i64 (b.1 - Int.tmod x.2.2.1 b.1) = b.1 - x.2.2.1 % b.1 := by rw [tmodP c2, wrap64 (by omega) (by omega)]
   have et : Int.tmod (b.1 - x.2.2.1 % b.1) b.1 = (b.1 - x.2.2.1 % b.1) % b.1 := tmodP sm.1
   simp (disch := first | omega | (simp only [List.length_cons]; omega)) only [grd_dec, grd_not, if_neg, if_pos, e, ew, et, tn, Ev.s2 R, turnB_mod (hk b List.mem_cons_self) sm.1]
 | rep b c1 c2 c3 c4 =>
  have hb := (hk b List.mem_cons_self).pos
  have e : rd [b] 0 = b := rfl
  have rp := fun R => repS_ev (hk b List.mem_cons_self) (r := x.2.2.1) c2 (by omega) R
  simp (disch := first | omega | (simp only [List.length_cons]; omega)) only [grd_dec, if_neg, if_pos, e, rp, Ev.s2 R]
def AccR (wide : List Int) (acc : List tBits) : Prop := acc.length = wide.length ∧ ∀ i : Nat, i < acc.length → RB (rd acc i) ∧ (rd acc i).1 = rd wide i
theorem AccR.app {wide : List Int} {acc : List tBits} {b : tBits} {w : Int} (h : AccR wide acc) (hb : RB b ∧ b.1 = w) : AccR (wide ++ [w]) (acc ++ [b]) := by
 refine ⟨by simp [h.1], fun i hi => ?_⟩
 rw [List.length_append, List.length_singleton] at hi
 by_cases h1 : i < acc.length
 ·rw [rd_app h1, rd_app (by have := h.1; omega)]; exact h.2 i h1
 ·have : i = acc.length := by omega
  subst this
  have e1 : rd (acc ++ [b]) acc.length = b := rd_mid
  have e2 : rd (wide ++ [w]) acc.length = w := by rw [h.1]; exact rd_mid
  rw [e1, e2]; exact hb
end Go.Vsi
end

section
set_option linter.unusedVariables false
set_option linter.unusedSimpArgs false
set_option synthInstance.maxSize 4096
namespace Go.Vsi
structure NodeAt (d : List tDecl) (t : List tTNode) (wide : List Int) (p : Nat) : Prop where
 pl : p < t.length
 wl : wide.length = t.length
 tl : t.length ≤ 400
 kin : ∀ k ∈ (rd t p).2.2.2.2.2.2, 0 ≤ k ∧ k < (t.length : Int)
 kw : ∀ k ∈ (rd t p).2.2.2.2.2.2, 1 ≤ rd wide k.toNat ∧ rd wide k.toNat ≤ 4096
 nw : nodeW d (rd t p) ((rd t p).2.2.2.2.2.2.map fun k => rd wide k.toNat) = rd wide p
 nc : NodeC d (rd t p) (rd wide p) ((rd t p).2.2.2.2.2.2.map fun k => ((rd wide k.toNat, []) : tBits))
 w1 : 1 ≤ rd wide p ∧ rd wide p ≤ 4096
 kl : (rd t p).2.2.2.2.2.2.length ≤ 4096
theorem widthsGo_at {d : List tDecl} : ∀ {ys : List tTNode} {wide : List Int} {used : List Bool} {r : List Int × List Bool}, WOk wide → widthsGo d ys wide used = some r →
  r.1.take wide.length = wide ∧ ∀ i, i < ys.length → WOk (r.1.take (wide.length + i)) ∧ stepW d (rd ys i) (r.1.take (wide.length + i)) = some (rd r.1 (wide.length + i))
 | [], wide, used, r, hw, h => by
  rw [widthsGo] at h; cases h
  exact ⟨List.take_length, fun i hi => absurd hi (Nat.not_lt_zero _)⟩
 | x :: ys, wide, used, r, hw, h => by
  rw [widthsGo] at h
  cases hs : stepW d x wide with
  | none => rw [hs] at h; cases h
  | some w =>
   rw [hs] at h
   obtain ⟨h1, h2⟩ := widthsGo_at (hw.app (stepW_ok hs)) h
   rw [List.length_append, List.length_singleton] at h1 h2
   have e1 : r.1.take wide.length = wide := by
    have := congrArg (List.take wide.length) h1
    rw [List.take_take, Nat.min_eq_left (Nat.le_succ _), List.take_left'] at this
    ·exact this
    ·rfl
   have hl := (widthsGo_ok (hw.app (stepW_ok hs)) h).2.1
   rw [List.length_append, List.length_singleton] at hl
   have e2 : rd r.1 wide.length = w := by
    have h3 : rd (r.1.take (wide.length + 1)) wide.length = w := by rw [h1]; exact rd_mid
    rw [rd, List.getD_eq_getElem?_getD, List.getElem?_take_of_lt (by omega), ← List.getD_eq_getElem?_getD] at h3
    exact h3
   refine ⟨e1, fun i hi => ?_⟩
   cases i with
   | zero => rw [Nat.add_zero, e1, e2]; exact ⟨hw, hs⟩
   | succ i =>
    have := h2 i (by simpa using hi)
    rw [show wide.length + (i + 1) = wide.length + 1 + i from by omega]
    exact this
theorem nodesAt {d : List tDecl} {t : List tTNode} (h : (widthsI d t).2 = true) : ∀ p, p < t.length → NodeAt d t (widthsI d t).1 p := fun p hp => by
 unfold widthsI at h ⊢
 split at h
 ·rename_i hc
  rw [if_pos hc]
  cases hg : widthsGo d t [] (List.replicate t.length false) with
  | none => rw [hg] at h; cases h
  | some r =>
   have w0 : WOk [] := fun w hw => by cases hw
   obtain ⟨g1, g2, g3⟩ := widthsGo_ok w0 hg
   obtain ⟨a1, a2⟩ := (widthsGo_at w0 hg).2 p hp
   rw [List.length_nil, Nat.zero_add] at a1 a2 g2
   obtain ⟨s1, s2, s3, s4, s5, s6⟩ := stepW_node a1 a2
   rw [kidsIn, List.all_eq_true] at s1
   have hk : ∀ k ∈ (rd t p).2.2.2.2.2.2, 0 ≤ k ∧ k.toNat < p := fun k hk => by
    have := s1 k hk
    rw [decide_eq_true_eq, List.length_take] at this
    omega
   have hr : ∀ k ∈ (rd t p).2.2.2.2.2.2, rd (r.1.take p) k.toNat = rd r.1 k.toNat := fun k hk' => by
    rw [rd, rd, List.getD_eq_getElem?_getD, List.getD_eq_getElem?_getD, List.getElem?_take_of_lt (hk k hk').2]
   refine ⟨hp, g2, hc.2, fun k hk' => ⟨(hk k hk').1, by have := (hk k hk').2; omega⟩, fun k hk' => ?_, ?_, ?_, ⟨s3, s4⟩, s6⟩
   ·have : rd r.1 k.toNat ∈ r.1 := by
     rw [rd, List.getD_eq_getElem?_getD, List.getElem?_eq_getElem (by have := (hk k hk').2; omega)]; exact List.getElem_mem _
    exact g1 _ this
   ·rw [← s2]
    congr 1
    exact List.map_congr_left fun k hk' => (hr k hk').symm
   ·refine node_cases ?_ s3
    rw [List.map_map, ← s2]
    congr 1
    exact List.map_congr_left fun k hk' => (hr k hk').symm
 ·cases h
theorem NodeAt.kid {d : List tDecl} {t : List tTNode} {wide : List Int} {p : Nat} (h : NodeAt d t wide p) (ho : 4 ≤ (rd t p).1) : ∃ k : Nat, (rd t p).2.2.2.2.2.2 = [(k : Int)] ∧ k < t.length ∧ 1 ≤ rd wide k ∧ rd wide k ≤ 4096 ∧ 0 ≤ (rd t p).2.2.1 ∧ (rd t p).2.2.1 ≤ 4096 ∧ ((rd t p).1 = 4 → 0 ≤ (rd t p).2.2.2.1 ∧ (rd t p).2.2.2.1 ≤ 4096) ∧ (((rd t p).1 = 7 ∨ (rd t p).1 = 8) → rd wide p = rd wide k) := by
 have hn := h.nc; have hkin := h.kin; have hkw := h.kw
 generalize e : (rd t p).2.2.2.2.2.2.map (fun k => ((rd wide k.toNat, []) : tBits)) = kb at hn
 have key : ∀ b, kb = [b] → ∃ k : Nat, (rd t p).2.2.2.2.2.2 = [(k : Int)] ∧ k < t.length ∧ 1 ≤ rd wide k ∧ rd wide k ≤ 4096 ∧ b.1 = rd wide k := fun b hb => by
  rw [hb] at e
  match hks : (rd t p).2.2.2.2.2.2, e with
  | [k], e =>
   rw [hks] at hkin hkw
   have h1 := hkin k List.mem_cons_self
   have h2 := hkw k List.mem_cons_self
   have e' : ((rd wide k.toNat, []) : tBits) = b := by simpa using e
   exact ⟨k.toNat, by rw [Int.toNat_of_nonneg h1.1], by omega, h2.1, h2.2, by rw [← e']⟩
 cases hn with
 | var c1 => omega
 | bits c1 => omega
 | cat b c l c1 => omega
 | part b c1 c2 c3 c4 c5 =>
  obtain ⟨k, k1, k2, k3, k4, k5⟩ := key b rfl
  exact ⟨k, k1, k2, k3, k4, by omega, by omega, fun _ => by omega, fun h => by omega⟩
 | wide b c1 c2 c3 c4 =>
  obtain ⟨k, k1, k2, k3, k4, k5⟩ := key b rfl
  exact ⟨k, k1, k2, k3, k4, by omega, by omega, fun h => by omega, fun h => by omega⟩
 | turn b c1 c2 c3 c4 =>
  obtain ⟨k, k1, k2, k3, k4, k5⟩ := key b rfl
  exact ⟨k, k1, k2, k3, k4, by omega, by omega, fun h => by omega, fun _ => by omega⟩
 | rep b c1 c2 c3 c4 =>
  obtain ⟨k, k1, k2, k3, k4, k5⟩ := key b rfl
  exact ⟨k, k1, k2, k3, k4, by omega, by omega, fun h => by omega, fun h => by omega⟩
def inner (wide : List Int) (hi lo : Int) : List Int → Int → Bool
 | [], _ => false
 | k :: r, at0 => if at0 ≤ lo ∧ hi < at0 + rd wide k.toNat then true else inner wide hi lo r (at0 + rd wide k.toNat)
def fitsB (t : List tTNode) (wide : List Int) (p : Nat) (rule : Int) : Bool :=
 if rule = 1 then decide ((rd t p).1 = 4 ∧ (rd t p).2.2.2.1 = 0 ∧ (rd t p).2.2.1 = rd wide (rd (rd t p).2.2.2.2.2.2 0).toNat - 1)
 else if rule = 2 then decide ((rd t p).1 = 4 ∧ (rd t (rd (rd t p).2.2.2.2.2.2 0).toNat).1 = 4)
 else if rule = 3 then decide (((rd t p).1 = 7 ∨ (rd t p).1 = 8) ∧ (rd t p).2.2.1 % rd wide p = 0)
 else if rule = 4 then decide ((rd t p).1 = 8 ∧ ¬ (rd t p).2.2.1 % rd wide p = 0)
 else if rule = 5 then decide (((rd t p).1 = 5 ∨ (rd t p).1 = 6) ∧ (rd t p).2.2.1 = 0)
 else if rule = 6 then decide ((rd t p).1 = 5 ∧ 0 < (rd t p).2.2.1)
 else if rule = 7 then decide ((rd t p).1 = 9 ∧ 1 < (rd t p).2.2.1)
 else if rule = 8 then decide ((rd t p).1 = 9 ∧ (rd t p).2.2.1 = 1)
 else if rule = 9 then decide ((rd t p).1 = 3) && (rd t p).2.2.2.2.2.2.any fun k => decide ((rd t k.toNat).1 = 3)
 else if rule = 10 then decide (0 < (rd t p).2.2.2.2.2.2.length) && !((rd t p).2.2.2.2.2.2.any fun k => !(decide ((rd t k.toNat).1 = 2)))
 else decide ((rd t p).1 = 4 ∧ (rd t (rd (rd t p).2.2.2.2.2.2 0).toNat).1 = 3) && inner wide (rd t p).2.2.1 (rd t p).2.2.2.1 (rd t (rd (rd t p).2.2.2.2.2.2 0).toNat).2.2.2.2.2.2.reverse 0
def KIn (t : List tTNode) (k : Int) : Prop := 0 ≤ k ∧ k < (t.length : Int)
theorem catKid1_ev {t : List tTNode} {wide : List Int} {y : Int} (h : KIn t y) (R : Nat → Bool → Prop) :
  Ev (fun n => impl_writer_catKid_1.c n y (t, wide) (R n)) ↔ Ev (fun n => R n (decide ((rd t y.toNat).1 = 3))) := by
 refine Ev.suc.trans ?_
 have h' : 0 ≤ y ∧ y < (t.length : Int) := h
 simp (disch := omega) only [impl_writer_catKid_1.c, impl_writer_catKid_1.w, grd_dec2]
 exact Ev.s1 R _
theorem fits1_ev {t : List tTNode} {wide : List Int} {y : Int} (h : KIn t y) (R : Nat → Bool → Prop) :
  Ev (fun n => impl_writer_fits_1.c n y (t, wide) (R n)) ↔ Ev (fun n => R n (!(decide ((rd t y.toNat).1 = 2)))) := by
 refine Ev.suc.trans ?_
 have h' : 0 ≤ y ∧ y < (t.length : Int) := h
 simp (disch := omega) only [impl_writer_fits_1.c, impl_writer_fits_1.w, grd_dec2]
 exact Ev.s1 R _
theorem slices_IndexFunc_int64__impl_writer_catKid_1_lp {l : List Int} {t : List tTNode} {wide : List Int} (hl : l.length ≤ 1099511627776) : ∀ (ys : List Int) (x : Int), l.drop x.toNat = ys → 0 ≤ x → (∀ y : Int, y ∈ ys → KIn t y) →
  ∀ (Kx : Nat → Prop) (Kr : Nat → Int → Prop),
  (Ev (fun n => slices_IndexFunc_int64__impl_writer_catKid_1.l2 n l (t, wide) l.length x (Kx n) (Kr n)) ↔ if firstIx (fun y => decide ((rd t y.toNat).1 = 3)) ys x < 0 then Ev Kx else Ev (fun n => Kr n (firstIx (fun y => decide ((rd t y.toNat).1 = 3)) ys x)))
 | [], x, h, h0, hy, Kx, Kr => by
  have := drop_nil h h0
  rw [firstIx, if_pos (by decide)]
  refine Ev.suc.trans ?_
  simp (disch := omega) only [slices_IndexFunc_int64__impl_writer_catKid_1.l2, slices_IndexFunc_int64__impl_writer_catKid_1.l2.b, if_neg, decide_eq_true_eq, Ev.s0 Kx]
 | y :: ys, x, h, h0, hy, Kx, Kr => by
  obtain ⟨e1, e2, e3⟩ := drop_cons h h0
  have hy0 := hy y List.mem_cons_self
  refine Ev.suc.trans ?_
  simp (disch := first | omega | assumption) only [slices_IndexFunc_int64__impl_writer_catKid_1.l2, slices_IndexFunc_int64__impl_writer_catKid_1.l2.b, if_pos, decide_eq_true_eq, grd_dec2, e2, wrap64, Ev.s1 Kr, catKid1_ev hy0, Ev.iteI]
  rw [slices_IndexFunc_int64__impl_writer_catKid_1_lp hl ys (x + 1) e3 (by omega) (fun y hy' => hy y (List.mem_cons_of_mem _ hy')), Ev.s0 Kx, Ev.s1 Kr]
  simp only [firstIx, decide_eq_true_eq]
  split
  ·rw [if_neg (by omega)]
  ·rfl
theorem slices_IndexFunc_int64__impl_writer_catKid_1_ev {l : List Int} {t : List tTNode} {wide : List Int} (hl : l.length ≤ 1099511627776) (hy : ∀ y : Int, y ∈ l → KIn t y) (R : Nat → Int → Prop) :
  Ev (fun n => slices_IndexFunc_int64__impl_writer_catKid_1.c n l (t, wide) (R n)) ↔ Ev (fun n => R n (firstIx (fun y => decide ((rd t y.toNat).1 = 3)) l 0)) := by
 refine Ev.suc.trans ?_
 simp only [slices_IndexFunc_int64__impl_writer_catKid_1.c, slices_IndexFunc_int64__impl_writer_catKid_1.w]
 rw [slices_IndexFunc_int64__impl_writer_catKid_1_lp hl l 0 rfl (by omega) hy, Ev.s1 R, Ev.s1 R]
 split
 ·rw [firstIx_neg (by omega) ‹_›]
 ·rfl
theorem slices_IndexFunc_int64__impl_writer_fits_1_lp {l : List Int} {t : List tTNode} {wide : List Int} (hl : l.length ≤ 1099511627776) : ∀ (ys : List Int) (x : Int), l.drop x.toNat = ys → 0 ≤ x → (∀ y : Int, y ∈ ys → KIn t y) →
  ∀ (Kx : Nat → Prop) (Kr : Nat → Int → Prop),
  (Ev (fun n => slices_IndexFunc_int64__impl_writer_fits_1.l2 n l (t, wide) l.length x (Kx n) (Kr n)) ↔ if firstIx (fun y => !(decide ((rd t y.toNat).1 = 2))) ys x < 0 then Ev Kx else Ev (fun n => Kr n (firstIx (fun y => !(decide ((rd t y.toNat).1 = 2))) ys x)))
 | [], x, h, h0, hy, Kx, Kr => by
  have := drop_nil h h0
  rw [firstIx, if_pos (by decide)]
  refine Ev.suc.trans ?_
  simp (disch := omega) only [slices_IndexFunc_int64__impl_writer_fits_1.l2, slices_IndexFunc_int64__impl_writer_fits_1.l2.b, if_neg, decide_eq_true_eq, Ev.s0 Kx]
 | y :: ys, x, h, h0, hy, Kx, Kr => by
  obtain ⟨e1, e2, e3⟩ := drop_cons h h0
  have hy0 := hy y List.mem_cons_self
  refine Ev.suc.trans ?_
  simp (disch := first | omega | assumption) only [slices_IndexFunc_int64__impl_writer_fits_1.l2, slices_IndexFunc_int64__impl_writer_fits_1.l2.b, if_pos, decide_eq_true_eq, grd_dec2, e2, wrap64, Ev.s1 Kr, fits1_ev hy0, Ev.iteI]
  rw [slices_IndexFunc_int64__impl_writer_fits_1_lp hl ys (x + 1) e3 (by omega) (fun y hy' => hy y (List.mem_cons_of_mem _ hy')), Ev.s0 Kx, Ev.s1 Kr]
  simp only [firstIx, decide_eq_true_eq]
  split
  ·rw [if_neg (by omega)]
  ·rfl
theorem slices_IndexFunc_int64__impl_writer_fits_1_ev {l : List Int} {t : List tTNode} {wide : List Int} (hl : l.length ≤ 1099511627776) (hy : ∀ y : Int, y ∈ l → KIn t y) (R : Nat → Int → Prop) :
  Ev (fun n => slices_IndexFunc_int64__impl_writer_fits_1.c n l (t, wide) (R n)) ↔ Ev (fun n => R n (firstIx (fun y => !(decide ((rd t y.toNat).1 = 2))) l 0)) := by
 refine Ev.suc.trans ?_
 simp only [slices_IndexFunc_int64__impl_writer_fits_1.c, slices_IndexFunc_int64__impl_writer_fits_1.w]
 rw [slices_IndexFunc_int64__impl_writer_fits_1_lp hl l 0 rfl (by omega) hy, Ev.s1 R, Ev.s1 R]
 split
 ·rw [firstIx_neg (by omega) ‹_›]
 ·rfl
theorem slices_ContainsFunc_int64__impl_writer_fits_1_ev {l : List Int} {t : List tTNode} {wide : List Int} (hl : l.length ≤ 1099511627776) (hy : ∀ y : Int, y ∈ l → KIn t y) (R : Nat → Bool → Prop) :
  Ev (fun n => slices_ContainsFunc_int64__impl_writer_fits_1.c n l (t, wide) (R n)) ↔ Ev (fun n => R n (l.any fun y => !(decide ((rd t y.toNat).1 = 2)))) := by
 refine Ev.suc.trans ?_
 simp only [slices_ContainsFunc_int64__impl_writer_fits_1.c, slices_ContainsFunc_int64__impl_writer_fits_1.w]
 rw [slices_IndexFunc_int64__impl_writer_fits_1_ev hl hy, Ev.s1 R, firstIx_any (by omega)]
theorem withinI_lp {t : List tTNode} {wide : List Int} {y : tTNode} {lo hi : Int} (hl : y.2.2.2.2.2.2.length ≤ 4096) (hk : ∀ k ∈ y.2.2.2.2.2.2, 0 ≤ k ∧ k < (wide.length : Int) ∧ 1 ≤ rd wide k.toNat ∧ rd wide k.toNat ≤ 4096) : ∀ (m : Nat) (a : Int), m ≤ y.2.2.2.2.2.2.length → 0 ≤ a → a + 4096 * (m : Int) ≤ 16777216 →
  ∀ (Kx : Nat → Prop) (Kr : Nat → Bool → Prop), (Ev (fun n => impl_writer_within.l3 n (t, wide) y lo hi a ((m : Int) - 1) (Kx n) (fun _ _ b => Kr n b)) ↔ if inner wide hi lo (y.2.2.2.2.2.2.take m).reverse a = true then Ev (fun n => Kr n true) else Ev Kx)
 | 0, a, hm, h0, h1, Kx, Kr => by
  refine Ev.suc.trans ?_
  simp (disch := omega) only [impl_writer_within.l3, impl_writer_within.l3.b, if_neg, decide_eq_true_eq, Ev.s0 Kx]
  rw [List.take_zero, List.reverse_nil, inner, if_neg (by decide)]
 | m + 1, a, hm, h0, h1, Kx, Kr => by
  have e : ((m + 1 : Nat) : Int) - 1 = (m : Int) := by omega
  have ew : IntKind.wrap .i64 ((m : Int) - 1) = (m : Int) - 1 := wrap64 (by omega) (by omega)
  have hr : rd y.2.2.2.2.2.2 m ∈ y.2.2.2.2.2.2 := by
   rw [rd, List.getD_eq_getElem?_getD, List.getElem?_eq_getElem (by omega)]; exact List.getElem_mem _
  have ht : y.2.2.2.2.2.2.take (m + 1) = y.2.2.2.2.2.2.take m ++ [rd y.2.2.2.2.2.2 m] := by
   rw [List.take_succ_eq_append_getElem (by omega), rd, List.getD_eq_getElem?_getD, List.getElem?_eq_getElem (by omega)]; rfl
  obtain ⟨k1, k2, k3, k4⟩ := hk _ hr
  have ew2 : IntKind.wrap .i64 (a + rd wide (rd y.2.2.2.2.2.2 m).toNat) = a + rd wide (rd y.2.2.2.2.2.2 m).toNat := wrap64 (by omega) (by omega)
  have ih := withinI_lp (t := t) (lo := lo) (hi := hi) hl hk m (a + rd wide (rd y.2.2.2.2.2.2 m).toNat) (by omega) (by omega) (by omega) (fun n => Kx (n + 1)) (fun n => Kr (n + 1))
  rw [Ev.s0 Kx, Ev.s1 Kr] at ih
  refine Ev.suc.trans ?_
  rw [e, ht, List.reverse_append, List.reverse_singleton, List.singleton_append, inner]
  simp (disch := omega) only [impl_writer_within.l3, impl_writer_within.l3.b, impl_writer_within.j3, if_pos, decide_eq_true_eq, grd_dec2, Int.toNat_natCast, ew, ew2, ih, Ev.iteI, Ev.s1 Kr]
  by_cases c1 : a ≤ lo
  ·rw [if_pos (show lo ≥ a from c1)]
   by_cases c2 : hi < a + rd wide (rd y.2.2.2.2.2.2 m).toNat
   ·rw [if_pos c2, if_pos (show a ≤ lo ∧ hi < a + rd wide (rd y.2.2.2.2.2.2 m).toNat from ⟨c1, c2⟩), if_pos rfl]
   ·rw [if_neg c2, if_neg (show ¬ (a ≤ lo ∧ hi < a + rd wide (rd y.2.2.2.2.2.2 m).toNat) from fun h => c2 h.2)]
  ·rw [if_neg (show ¬ lo ≥ a from c1), if_neg (show ¬ (a ≤ lo ∧ hi < a + rd wide (rd y.2.2.2.2.2.2 m).toNat) from fun h => c1 h.1)]
theorem withinI_ev {t : List tTNode} {wide : List Int} {y : tTNode} {lo hi : Int} (hl : y.2.2.2.2.2.2.length ≤ 4096) (hk : ∀ k ∈ y.2.2.2.2.2.2, 0 ≤ k ∧ k < (wide.length : Int) ∧ 1 ≤ rd wide k.toNat ∧ rd wide k.toNat ≤ 4096) (R : Nat → Bool → Prop) :
  Ev (fun n => impl_writer_within.c n (t, wide) y lo hi (fun _ _ b => R n b)) ↔ Ev (fun n => R n (inner wide hi lo y.2.2.2.2.2.2.reverse 0)) := by
 have ew : IntKind.wrap .i64 ((y.2.2.2.2.2.2.length : Int) - 1) = (y.2.2.2.2.2.2.length : Int) - 1 := wrap64 (by omega) (by omega)
 have lp := withinI_lp (t := t) (lo := lo) (hi := hi) hl hk y.2.2.2.2.2.2.length 0 (Nat.le_refl _) (by omega) (by omega) (fun n => R (n + 1) false) (fun n => R (n + 1))
 rw [List.take_length] at lp
 refine Ev.suc.trans ?_
 simp only [impl_writer_within.c, impl_writer_within.w, ew]
 refine lp.trans ?_
 cases inner wide hi lo y.2.2.2.2.2.2.reverse 0
 ·rw [if_neg (by decide)]; exact Ev.s1 R _
 ·rw [if_pos rfl]; exact Ev.s1 R _
end Go.Vsi
end

section
set_option linter.unusedVariables false
set_option linter.unusedSimpArgs false
set_option synthInstance.maxSize 4096
namespace Go.Vsi
theorem kidI_ev {t : List tTNode} {wide : List Int} {x : tTNode} {k : Nat} (hk : x.2.2.2.2.2.2 = [(k : Int)]) (hl : k < t.length) (R : Nat → tTNode → Prop) :
  Ev (fun n => impl_writer_kid.c n (t, wide) x (R n)) ↔ Ev (fun n => R n (rd t k)) := by
 have e : rd [(k : Int)] 0 = (k : Int) := rfl
 refine Ev.suc.trans ?_
 simp (disch := first | omega | exact Int.one_pos) only [impl_writer_kid.c, impl_writer_kid.w, hk, e, grd_dec, grd_dec2, Int.toNat_natCast]
 exact Ev.s1 R _
theorem fitsI_ev {d : List tDecl} {t : List tTNode} {wide : List Int} {p : Nat} (h : NodeAt d t wide p) (ha : ∀ q, q < t.length → NodeAt d t wide q) {rule : Int} (h1 : 1 ≤ rule) (h2 : rule ≤ 11) (R : Nat → Bool → Prop) :
  Ev (fun n => impl_writer_fits.c n (t, wide) p rule (R n)) ↔ Ev (fun n => R n (fitsB t wide p rule)) := by
 have hp := h.pl
 have hwl := h.wl
 have hw1 := h.w1
 refine Ev.suc.trans ?_
 rcases (show rule = 1 ∨ rule = 2 ∨ rule = 3 ∨ rule = 4 ∨ rule = 5 ∨ rule = 6 ∨ rule = 7 ∨ rule = 8 ∨ rule = 9 ∨ rule = 10 ∨ rule = 11 by omega) with rfl | rfl | rfl | rfl | rfl | rfl | rfl | rfl | rfl | rfl | rfl
 ·simp (disch := omega) only [impl_writer_fits.c, impl_writer_fits.w, grd_dec2, Int.toNat_natCast, if_pos, if_neg, if_true, decide_eq_true_eq, Ev.iteI, fitsB]
  by_cases c1 : (rd t p).1 = 4
  ·obtain ⟨k, k1, k2, k3, k4, k5, k6, k7, k8⟩ := h.kid (by omega)
   have e : rd [(k : Int)] 0 = (k : Int) := rfl
   rw [if_pos c1]
   by_cases c2 : (rd t p).2.2.2.1 = 0
   ·rw [if_pos c2]
    simp (disch := first | omega | exact Int.one_pos) only [k1, e, grd_dec, grd_dec2, Int.toNat_natCast, wrap64, c1, c2, true_and]
    exact Ev.s1 R _
   ·rw [if_neg c2, decide_eq_false (fun h => c2 h.2.1)]; exact Ev.s1 R _
  ·rw [if_neg c1, decide_eq_false (fun h => c1 h.1)]; exact Ev.s1 R _
 ·simp (disch := omega) only [impl_writer_fits.c, impl_writer_fits.w, grd_dec2, Int.toNat_natCast, if_pos, if_neg, if_true, decide_eq_true_eq, Ev.iteI, fitsB]
  by_cases c1 : (rd t p).1 = 4
  ·obtain ⟨k, k1, k2, k3, k4, k5, k6, k7, k8⟩ := h.kid (by omega)
   have e : rd [(k : Int)] 0 = (k : Int) := rfl
   have kk := fun R => kidI_ev (wide := wide) k1 k2 R
   rw [if_pos c1]
   simp only [kk, k1, e, Int.toNat_natCast, c1, true_and]
   exact Ev.s1 R _
  ·rw [if_neg c1, decide_eq_false (fun h => c1 h.1)]; exact Ev.s1 R _
 ·simp (disch := omega) only [impl_writer_fits.c, impl_writer_fits.w, grd_dec2, Int.toNat_natCast, if_pos, if_neg, if_true, decide_eq_true_eq, decide_eq_false_iff_not, Ev.iteI, fitsB]
  by_cases c1 : (rd t p).1 = 7 ∨ (rd t p).1 = 8
  ·obtain ⟨k, k1, k2, k3, k4, k5, k6, k7, k8⟩ := h.kid (by omega)
   have nz : ¬ rd wide p = 0 := by omega
   have tm : Int.tmod (rd t p).2.2.1 (rd wide p) = (rd t p).2.2.1 % rd wide p := tmodP k5
   simp (disch := first | omega | assumption) only [grd_dec2, grd_not, Int.toNat_natCast, tm]
   rw [show decide (((rd t p).1 = 7 ∨ (rd t p).1 = 8) ∧ (rd t p).2.2.1 % rd wide p = 0) = decide ((rd t p).2.2.1 % rd wide p = 0) from by rw [decide_eq_decide]; exact ⟨fun h => h.2, fun h => ⟨c1, h⟩⟩]
   by_cases c7 : (rd t p).1 = 7
   ·rw [if_neg (show ¬ ¬ (rd t p).1 = 7 from fun h => h c7)]; exact Ev.s1 R _
   ·rw [if_pos c7, if_pos (by omega)]; exact Ev.s1 R _
  ·rw [if_pos (show ¬ (rd t p).1 = 7 by omega), if_neg (show ¬ (rd t p).1 = 8 by omega), decide_eq_false (fun h => c1 h.1)]; exact Ev.s1 R _
 ·simp (disch := omega) only [impl_writer_fits.c, impl_writer_fits.w, grd_dec2, Int.toNat_natCast, if_pos, if_neg, if_true, decide_eq_true_eq, Ev.iteI, fitsB]
  by_cases c1 : (rd t p).1 = 8
  ·obtain ⟨k, k1, k2, k3, k4, k5, k6, k7, k8⟩ := h.kid (by omega)
   have nz : ¬ rd wide p = 0 := by omega
   have tm : Int.tmod (rd t p).2.2.1 (rd wide p) = (rd t p).2.2.1 % rd wide p := tmodP k5
   rw [if_pos c1]
   simp (disch := first | omega | assumption) only [grd_dec2, grd_not, Int.toNat_natCast, tm]
   rw [show decide ((rd t p).1 = 8 ∧ ¬ (rd t p).2.2.1 % rd wide p = 0) = !(decide ((rd t p).2.2.1 % rd wide p = 0)) from by rw [← decide_not, decide_eq_decide]; exact ⟨fun h => h.2, fun h => ⟨c1, h⟩⟩]
   exact Ev.s1 R _
  ·rw [if_neg c1, decide_eq_false (fun h => c1 h.1)]; exact Ev.s1 R _
 ·simp (disch := omega) only [impl_writer_fits.c, impl_writer_fits.w, grd_dec2, Int.toNat_natCast, if_pos, if_neg, if_true, decide_eq_true_eq, decide_eq_false_iff_not, Ev.iteI, fitsB]
  by_cases c1 : (rd t p).1 = 5 ∨ (rd t p).1 = 6
  ·rw [show decide (((rd t p).1 = 5 ∨ (rd t p).1 = 6) ∧ (rd t p).2.2.1 = 0) = decide ((rd t p).2.2.1 = 0) from by rw [decide_eq_decide]; exact ⟨fun h => h.2, fun h => ⟨c1, h⟩⟩]
   by_cases c7 : (rd t p).1 = 5
   ·rw [if_neg (show ¬ ¬ (rd t p).1 = 5 from fun h => h c7)]; exact Ev.s1 R _
   ·rw [if_pos c7, if_pos (by omega)]; exact Ev.s1 R _
  ·rw [if_pos (show ¬ (rd t p).1 = 5 by omega), if_neg (show ¬ (rd t p).1 = 6 by omega), decide_eq_false (fun h => c1 h.1)]; exact Ev.s1 R _
 ·simp (disch := omega) only [impl_writer_fits.c, impl_writer_fits.w, grd_dec2, Int.toNat_natCast, if_pos, if_neg, if_true, decide_eq_true_eq, Ev.iteI, fitsB]
  by_cases c1 : (rd t p).1 = 5
  ·rw [if_pos c1, show decide ((rd t p).1 = 5 ∧ 0 < (rd t p).2.2.1) = decide ((rd t p).2.2.1 > 0) from by rw [decide_eq_decide]; exact ⟨fun h => h.2, fun h => ⟨c1, h⟩⟩]; exact Ev.s1 R _
  ·rw [if_neg c1, decide_eq_false (fun h => c1 h.1)]; exact Ev.s1 R _
 ·simp (disch := omega) only [impl_writer_fits.c, impl_writer_fits.w, grd_dec2, Int.toNat_natCast, if_pos, if_neg, if_true, decide_eq_true_eq, Ev.iteI, fitsB]
  by_cases c1 : (rd t p).1 = 9
  ·rw [if_pos c1, show decide ((rd t p).1 = 9 ∧ 1 < (rd t p).2.2.1) = decide ((rd t p).2.2.1 > 1) from by rw [decide_eq_decide]; exact ⟨fun h => h.2, fun h => ⟨c1, h⟩⟩]; exact Ev.s1 R _
  ·rw [if_neg c1, decide_eq_false (fun h => c1 h.1)]; exact Ev.s1 R _
 ·simp (disch := omega) only [impl_writer_fits.c, impl_writer_fits.w, grd_dec2, Int.toNat_natCast, if_pos, if_neg, if_true, decide_eq_true_eq, Ev.iteI, fitsB]
  by_cases c1 : (rd t p).1 = 9
  ·rw [if_pos c1, show decide ((rd t p).1 = 9 ∧ (rd t p).2.2.1 = 1) = decide ((rd t p).2.2.1 = 1) from by rw [decide_eq_decide]; exact ⟨fun h => h.2, fun h => ⟨c1, h⟩⟩]; exact Ev.s1 R _
  ·rw [if_neg c1, decide_eq_false (fun h => c1 h.1)]; exact Ev.s1 R _
 ·have hkl := h.kl
  have ix : ∀ R : Nat → Int → Prop, Ev (fun n => impl_writer_catKid.c n (t, wide) (rd t p) (R n)) ↔ Ev (fun n => R n (firstIx (fun y => decide ((rd t y.toNat).1 = 3)) (rd t p).2.2.2.2.2.2 0)) := fun R => by
   have := fun R => slices_IndexFunc_int64__impl_writer_catKid_1_ev (l := (rd t p).2.2.2.2.2.2) (t := t) (wide := wide) (by omega) h.kin R
   refine Ev.suc.trans ?_
   simp only [impl_writer_catKid.c, impl_writer_catKid.w, this]
   exact Ev.s1 R _
  simp (disch := omega) only [impl_writer_fits.c, impl_writer_fits.w, grd_dec2, Int.toNat_natCast, if_pos, if_neg, if_true, decide_eq_true_eq, ix, firstIx_any, Ev.iteI, fitsB]
  by_cases c1 : (rd t p).1 = 3
  ·rw [if_pos c1, decide_eq_true c1, Bool.true_and]; exact Ev.s1 R _
  ·rw [if_neg c1, decide_eq_false c1, Bool.false_and]; exact Ev.s1 R _
 ·have hkl := h.kl
  have ct := fun R => slices_ContainsFunc_int64__impl_writer_fits_1_ev (l := (rd t p).2.2.2.2.2.2) (t := t) (wide := wide) (by omega) h.kin R
  simp (disch := omega) only [impl_writer_fits.c, impl_writer_fits.w, grd_dec2, Int.toNat_natCast, if_pos, if_neg, if_true, decide_eq_true_eq, ct, Ev.iteI, fitsB]
  by_cases c1 : 0 < (rd t p).2.2.2.2.2.2.length
  ·rw [if_pos (by omega), decide_eq_true c1, Bool.true_and]; exact Ev.s1 R _
  ·rw [if_neg (by omega), decide_eq_false c1, Bool.false_and]; exact Ev.s1 R _
 ·simp (disch := omega) only [impl_writer_fits.c, impl_writer_fits.w, grd_dec2, Int.toNat_natCast, if_pos, if_neg, if_true, decide_eq_true_eq, Bool.not_eq_false', Ev.iteI, fitsB]
  by_cases c1 : (rd t p).1 = 4
  ·obtain ⟨k, k1, k2, k3, k4, k5, k6, k7, k8⟩ := h.kid (by omega)
   have e : rd [(k : Int)] 0 = (k : Int) := rfl
   have kk := fun R => kidI_ev (wide := wide) k1 k2 R
   have hq := ha k k2
   rw [if_pos c1]
   simp only [kk, Ev.iteI, Bool.not_eq_true', decide_eq_false_iff_not, k1, e, Int.toNat_natCast]
   by_cases c2 : (rd t k).1 = 3
   ·have wi := fun R => withinI_ev (t := t) (wide := wide) (y := rd t k) (lo := (rd t p).2.2.2.1) (hi := (rd t p).2.2.1) hq.kl (fun j hj => ⟨(hq.kin j hj).1, by rw [hwl]; exact (hq.kin j hj).2, hq.kw j hj⟩) R
    rw [if_neg (show ¬ ¬ (rd t k).1 = 3 from fun h => h c2), decide_eq_true ⟨c1, c2⟩, Bool.true_and]
    simp only [impl_writer_fits.j1, Int.toNat_natCast, and_self, kk, wi]
    exact Ev.s1 R _
   ·rw [if_pos c2, decide_eq_false (fun h => c2 h.2), Bool.false_and]; exact Ev.s1 R _
  ·rw [if_neg c1, decide_eq_false (fun h => c1 h.1), Bool.false_and]; exact Ev.s1 R _
end Go.Vsi
end

section
set_option linter.unusedVariables false
set_option linter.unusedSimpArgs false
set_option synthInstance.maxSize 4096
namespace Go.Vsi
theorem node15_ev {a1 a2 a3 a4 a5 : Int} {a6 a7 : List Int} (R : Nat → Int → List tTNode → Bool → Prop) :
  Ev (fun n => spec_l15Node.c n a1 a2 a3 a4 a5 a6 a7 (R n)) ↔ Ev (fun n => R n (-1) [(a1, a2, a3, a4, a5, a6, a7)] true) := Ev.suc.trans (Ev.s3 R _ _ _)
theorem kid15_ev {a1 : Int} (R : Nat → Int → List tTNode → Bool → Prop) :
  Ev (fun n => spec_l15Kid.c n a1 (R n)) ↔ Ev (fun n => R n a1 [] true) := Ev.suc.trans (Ev.s3 R _ _ _)
def csOf (t : List tTNode) (ks : List Int) : List tBits := ks.map fun k => ((rd t k.toNat).2.2.2.2.1, (rd t k.toNat).2.2.2.2.2.1)
theorem const_lp {t x42 : List tTNode} {a2 a3 a4 a5 a6 x51 : Int} {a7 ks : List Int} (hl : ks.length ≤ 4096) : ∀ (ys : List Int) (x : Int) (o : List tBits), ks.drop x.toNat = ys → 0 ≤ x → o.length = x.toNat → (∀ k ∈ ys, KIn t k) →
  ∀ (Kx : Nat → List tBits → List tTNode → Int → Int → Int → Int → Int → List Int → List Int → Int → Prop) (Kr : Nat → Bool → List tTNode → Int → Prop),
  (Ev (fun n => spec_l15Const.l3 n x42 t a2 a3 a4 a5 a6 a7 ks x51 x o (Kx n) (Kr n)) ↔ if (ys.any fun k => !(decide ((rd t k.toNat).1 = 2))) = true then Ev (fun n => Kr n false [] 0) else Ev (fun n => Kx n (o ++ csOf t ys) x42 a2 a3 a4 a5 a6 a7 ks x51))
 | [], x, o, h, h0, ho, hy, Kx, Kr => by
  have := drop_nil h h0
  refine Ev.suc.trans ?_
  simp (disch := omega) only [spec_l15Const.l3, spec_l15Const.l3.b, if_neg, decide_eq_true_eq]
  rw [if_neg (by simp), csOf, List.map_nil, List.append_nil]
  exact Ev.s10 Kx _ _ _ _ _ _ _ _ _ _
 | y :: ys, x, o, h, h0, ho, hy, Kx, Kr => by
  obtain ⟨e1, e2, e3⟩ := drop_cons h h0
  obtain ⟨k1, k2⟩ : 0 ≤ y ∧ y < (t.length : Int) := hy y List.mem_cons_self
  have ih := const_lp (x42 := x42) (a2 := a2) (a3 := a3) (a4 := a4) (a5 := a5) (a6 := a6) (a7 := a7) (x51 := x51) hl ys (x + 1) (o ++ [((rd t y.toNat).2.2.2.2.1, (rd t y.toNat).2.2.2.2.2.1)]) e3 (by omega) (by simp; omega) (fun k hk => hy k (List.mem_cons_of_mem _ hk)) (fun n => Kx (n + 1)) (fun n => Kr (n + 1))
  refine Ev.suc.trans ?_
  simp (disch := first | omega | (simp only [List.length_cons, List.length_nil]; omega)) only [spec_l15Const.l3, spec_l15Const.l3.b, if_pos, decide_eq_true_eq, grd_dec2, grd_dec, e2, Ev.iteI, Bool.not_eq_true', decide_eq_false_iff_not, wrap64]
  have ea : ((y :: ys).any fun k => !(decide ((rd t k.toNat).1 = 2))) = (!(decide ((rd t y.toNat).1 = 2)) || ys.any fun k => !(decide ((rd t k.toNat).1 = 2))) := List.any_cons
  rw [ea]
  by_cases c : (rd t y.toNat).1 = 2
  ·rw [if_neg (show ¬ ¬ (rd t y.toNat).1 = 2 from fun h => h c), decide_eq_true c, show (!true || ys.any fun k => !(decide ((rd t k.toNat).1 = 2))) = (ys.any fun k => !(decide ((rd t k.toNat).1 = 2))) from rfl]
   refine ih.trans ?_
   split
   ·exact Ev.s3 Kr _ _ _
   ·rw [List.append_assoc]; exact Ev.s10 Kx _ _ _ _ _ _ _ _ _ _
  ·rw [if_pos c, decide_eq_false c, if_pos (by rfl)]; exact Ev.s3 Kr _ _ _
theorem NodeC.none {d : List tDecl} {x : tTNode} {w : Int} {kb : List tBits} (h : NodeC d x w kb) (hk : kb ≠ []) : NodeC [] x w kb := by
 cases h with
 | var => exact absurd rfl hk
 | bits => exact absurd rfl hk
 | cat b c l c1 c2 => exact .cat b c l c1 c2
 | part b c1 c2 c3 c4 c5 => exact .part b c1 c2 c3 c4 c5
 | wide b c1 c2 c3 c4 => exact .wide b c1 c2 c3 c4
 | turn b c1 c2 c3 c4 => exact .turn b c1 c2 c3 c4
 | rep b c1 c2 c3 c4 => exact .rep b c1 c2 c3 c4
theorem const_ev {d : List tDecl} {t : List tTNode} {wide : List Int} {p : Nat} (h : NodeAt d t wide p) (ha : ∀ q, q < t.length → NodeAt d t wide q) (hw : ∀ x ∈ t, Wd x.2.2.2.2.2.1) (R : Nat → Bool → Prop) :
  Ev (fun n => spec_l15Const.c n t (rd t p).1 (rd t p).2.1 (rd t p).2.2.1 (rd t p).2.2.2.1 (rd t p).2.2.2.2.1 (rd t p).2.2.2.2.2.1 (rd t p).2.2.2.2.2.2 (fun _ _ b => R n b)) ↔ Ev (fun n => R n (decide (0 < (rd t p).2.2.2.2.2.2.length) && !((rd t p).2.2.2.2.2.2.any fun k => !(decide ((rd t k.toNat).1 = 2))))) := by
 have hkl := h.kl; have hw1 := h.w1
 refine Ev.suc.trans ?_
 simp only [spec_l15Const.c, spec_l15Const.w]
 refine (const_lp hkl (rd t p).2.2.2.2.2.2 0 [] rfl (by omega) rfl h.kin (fun n y83 y84 y85 y86 y87 y88 y89 y90 y91 y92 => if (decide ((y83.length : Int) = 0)) = true then R (n + 1) false else spec_l4Node.c n ([] : List (tBits)) y85 y86 y87 y88 y89 y90 y91 y83 (fun r95 r96 => spec_l15Node.c n 2 0 0 0 r95 r96 ([] : List (Int)) (fun r97 r98 r99 => R (n + 1) r99))) (fun n b _ _ => R (n + 1) b)).trans ?_
 by_cases c : ((rd t p).2.2.2.2.2.2.any fun k => !(decide ((rd t k.toNat).1 = 2))) = true
 ·rw [if_pos c, c, Bool.not_true, Bool.and_false]; exact Ev.s1 R _
 ·have c' : ((rd t p).2.2.2.2.2.2.any fun k => !(decide ((rd t k.toNat).1 = 2))) = false := by simpa using c
  rw [if_neg c, c', Bool.not_false, Bool.and_true]
  have hlen : (csOf t (rd t p).2.2.2.2.2.2).length = (rd t p).2.2.2.2.2.2.length := by simp [csOf]
  simp only [List.nil_append, hlen, Ev.iteI, decide_eq_true_eq]
  by_cases c0 : 0 < (rd t p).2.2.2.2.2.2.length
  ·rw [if_neg (by omega), decide_eq_true c0]
   have h2 : ∀ k ∈ (rd t p).2.2.2.2.2.2, (rd t k.toNat).1 = 2 := fun k hk => by
    rw [List.any_eq_false] at c'
    simpa using c' k hk
   have hb : ∀ k ∈ (rd t p).2.2.2.2.2.2, RB ((rd t k.toNat).2.2.2.2.1, (rd t k.toNat).2.2.2.2.2.1) ∧ (rd t k.toNat).2.2.2.2.1 = rd wide k.toNat := fun k hk => by
    have hin := h.kin k hk
    have hq := (ha k.toNat (by omega)).nc
    have hop := h2 k hk
    have hwd := hw (rd t k.toNat) (by rw [rd, List.getD_eq_getElem?_getD, List.getElem?_eq_getElem (by omega)]; exact List.getElem_mem _)
    generalize ((rd t k.toNat).2.2.2.2.2.2.map fun j => ((rd wide j.toNat, []) : tBits)) = kb at hq
    cases hq with
    | bits c1 c2 c3 =>
     obtain ⟨ws, e, ho⟩ := bitsOk_ok hwd c2
     exact ⟨⟨ws, e, ho⟩, c3.symm⟩
    | var c1 => omega
    | cat b c l c1 => omega
    | part b c1 => omega
    | wide b c1 => omega
    | turn b c1 => omega
    | rep b c1 => omega
   have nc : NodeC d (rd t p) (rd wide p) (csOf t (rd t p).2.2.2.2.2.2) := by
    refine node_cases ?_ hw1.1
    rw [← h.nw, csOf, List.map_map]
    congr 1
    exact List.map_congr_left fun k hk => (hb k hk).2
   have nc0 := nc.none (fun e => by rw [e] at hlen; simp at hlen; omega)
   have ap := fun R => applyS_ev (vals := []) nc0 hw1.2 hw1.1 ⟨rfl, fun i hi => absurd hi (Nat.not_lt_zero _)⟩ (fun b hb' => by
    obtain ⟨k, hk, rfl⟩ := List.mem_map.1 hb'
    exact (hb k hk).1) (by rw [hlen]; omega) R
   simp only [ap, node15_ev]
   exact Ev.s1 R _
  ·rw [if_pos (by omega), decide_eq_false c0]; exact Ev.s1 R _
theorem innerS_lp {wide ks : List Int} {hi lo a1 a2 a3 a4 a5 : Int} {a6 : List Int} (hl : ks.length ≤ 4096) (hk : ∀ k ∈ ks, 0 ≤ k ∧ k < (wide.length : Int) ∧ 1 ≤ rd wide k.toNat ∧ rd wide k.toNat ≤ 4096) : ∀ (m : Nat) (a : Int), m ≤ ks.length → 0 ≤ a → a + 4096 * (m : Int) ≤ 16777216 →
  ∀ (Kx : Nat → Prop) (Kr : Nat → Int → Int → Prop) (S : Nat → Prop), (∀ k f, 0 ≤ k → (Ev (fun n => Kr n k f) ↔ Ev S)) → (Ev (fun n => spec_l15Inner.l3 n wide hi lo a1 a2 a3 a4 a5 a6 ks a ((m : Int) - 1) (Kx n) (Kr n)) ↔ if inner wide hi lo (ks.take m).reverse a = true then Ev S else Ev Kx)
 | 0, a, hm, h0, h1, Kx, Kr, S, hS => by
  refine Ev.suc.trans ?_
  simp (disch := omega) only [spec_l15Inner.l3, spec_l15Inner.l3.b, if_neg, decide_eq_true_eq, Ev.s0 Kx]
  rw [List.take_zero, List.reverse_nil, inner, if_neg (by decide)]
 | m + 1, a, hm, h0, h1, Kx, Kr, S, hS => by
  have e : ((m + 1 : Nat) : Int) - 1 = (m : Int) := by omega
  have ew : IntKind.wrap .i64 ((m : Int) - 1) = (m : Int) - 1 := wrap64 (by omega) (by omega)
  have hr : rd ks m ∈ ks := by
   rw [rd, List.getD_eq_getElem?_getD, List.getElem?_eq_getElem (by omega)]; exact List.getElem_mem _
  have ht : ks.take (m + 1) = ks.take m ++ [rd ks m] := by
   rw [List.take_succ_eq_append_getElem (by omega), rd, List.getD_eq_getElem?_getD, List.getElem?_eq_getElem (by omega)]; rfl
  obtain ⟨k1, k2, k3, k4⟩ := hk _ hr
  have ew2 : IntKind.wrap .i64 (a + rd wide (rd ks m).toNat) = a + rd wide (rd ks m).toNat := wrap64 (by omega) (by omega)
  have ih := innerS_lp (hi := hi) (lo := lo) (a1 := a1) (a2 := a2) (a3 := a3) (a4 := a4) (a5 := a5) (a6 := a6) hl hk m (a + rd wide (rd ks m).toNat) (by omega) (by omega) (by omega) (fun n => Kx (n + 1)) (fun n => Kr (n + 1)) S (fun k f h => (Ev.s2 Kr k f).trans (hS k f h))
  rw [Ev.s0 Kx] at ih
  refine Ev.suc.trans ?_
  rw [e, ht, List.reverse_append, List.reverse_singleton, List.singleton_append, inner]
  simp (disch := omega) only [spec_l15Inner.l3, spec_l15Inner.l3.b, spec_l15Inner.j4, if_pos, decide_eq_true_eq, grd_dec2, Int.toNat_natCast, ew, ew2, Bool.false_eq_true, if_false, ih, Ev.iteI, Ev.s2 Kr]
  by_cases c1 : a ≤ lo
  ·rw [if_pos (show lo ≥ a from c1)]
   by_cases c2 : hi < a + rd wide (rd ks m).toNat
   ·rw [if_pos c2, if_pos (show a ≤ lo ∧ hi < a + rd wide (rd ks m).toNat from ⟨c1, c2⟩), if_pos rfl]
    exact hS _ _ k1
   ·rw [if_neg c2, if_neg (show ¬ (a ≤ lo ∧ hi < a + rd wide (rd ks m).toNat) from fun h => c2 h.2)]
  ·rw [if_neg (show ¬ lo ≥ a from c1), if_neg (show ¬ (a ≤ lo ∧ hi < a + rd wide (rd ks m).toNat) from fun h => c1 h.1)]
theorem innerS_ev {wide ks : List Int} {hi lo a1 a2 a3 a4 a5 : Int} {a6 : List Int} (hl : ks.length ≤ 4096) (hk : ∀ k ∈ ks, 0 ≤ k ∧ k < (wide.length : Int) ∧ 1 ≤ rd wide k.toNat ∧ rd wide k.toNat ≤ 4096) (R : Nat → Int → Int → Prop) (S : Nat → Bool → Prop) (h1 : ∀ k f, 0 ≤ k → (Ev (fun n => R n k f) ↔ Ev (fun n => S n true))) (h2 : Ev (fun n => R n (-1) 0) ↔ Ev (fun n => S n false)) :
  Ev (fun n => spec_l15Inner.c n a1 a2 a3 a4 a5 a6 ks wide hi lo (R n)) ↔ Ev (fun n => S n (inner wide hi lo ks.reverse 0)) := by
 have ew : IntKind.wrap .i64 ((ks.length : Int) - 1) = (ks.length : Int) - 1 := wrap64 (by omega) (by omega)
 have lp := innerS_lp (hi := hi) (lo := lo) (a1 := a1) (a2 := a2) (a3 := a3) (a4 := a4) (a5 := a5) (a6 := a6) hl hk ks.length 0 (Nat.le_refl _) (by omega) (by omega) (fun n => R (n + 1) (-1) 0) (fun n => R (n + 1)) (fun n => S n true) (fun k f h => (Ev.s2 R k f).trans (h1 k f h))
 rw [List.take_length] at lp
 refine Ev.suc.trans ?_
 simp only [spec_l15Inner.c, spec_l15Inner.w, ew]
 refine lp.trans ?_
 cases inner wide hi lo ks.reverse 0
 ·rw [if_neg (by decide)]; exact (Ev.s2 R _ _).trans h2
 ·rw [if_pos rfl]
theorem bitsOf0_lp {w : Nat} (hw : w ≤ 4096) {x18 : List Int} {x19 : Int} : ∀ (m k : Nat), k + m = w → ∀ Kx : Nat → Int → List Int → List Int → Int → Prop,
  (Ev (fun n => spec_BitsOf.l5 n w x18 x19 0 k (bl k fun _ => false) (Kx n)) ↔ Ev (fun n => Kx n 0 (bl w fun _ => false) x18 x19))
 | 0, k, h, Kx => by
  have : k = w := by omega
  subst this
  refine Ev.suc.trans ?_
  simp (disch := omega) only [spec_BitsOf.l5, spec_BitsOf.l5.b, if_neg, decide_eq_true_eq]
  exact Ev.s4 Kx _ _ _ _
 | m + 1, k, h, Kx => by
  have ew : IntKind.wrap .i64 ((k : Int) + 1) = ((k + 1 : Nat) : Int) := wrap64 (by omega) (by omega)
  have e0 : (bl k fun _ => false) ++ [IntKind.wrap .u8 (Int.tmod 0 2)] = bl (k + 1) fun _ => false := by
   rw [bl, bl, List.range_succ, List.map_append]; rfl
  have e1 : IntKind.wrap .i64 (Int.tdiv 0 2) = 0 := rfl
  refine Ev.suc.trans ?_
  simp (disch := first | omega | (simp only [bl_len, List.length_cons, List.length_nil]; omega)) only [spec_BitsOf.l5, spec_BitsOf.l5.b, if_pos, decide_eq_true_eq, grd_dec, e0, e1, ew]
  exact (bitsOf0_lp hw m (k + 1) (by omega) (fun n => Kx (n + 1))).trans (Ev.s4 Kx _ _ _ _)
theorem bitsOf0_ev {w : Nat} (h1 : 1 ≤ w) (h2 : w ≤ 4096) (R : Nat → Int → List Int → Bool → Prop) :
  Ev (fun n => spec_BitsOf.c n w 0 (R n)) ↔ Ev (fun n => R n w (W (pk w fun _ => false)) true) := by
 have lp := fun Kx => bitsOf0_lp (w := w) h2 (x18 := []) (x19 := 0) w 0 (by omega) Kx
 rw [bl_zero] at lp
 have fr := fun R => from_ev (w := w) (f := fun _ => false) h1 h2 R
 have hi : decide ((1 : Int) ≤ w ∧ (w : Int) ≤ 4096) = true := decide_eq_true (by omega)
 refine Ev.suc.trans ?_
 simp only [spec_BitsOf.c, spec_BitsOf.w, spec_BitsOf.j0, l1In_ev, hi, Bool.not_true, if_true]
 simp (disch := omega) only [if_neg, decide_eq_true_eq]
 refine (lp _).trans ?_
 simp (disch := omega) only [if_neg, decide_eq_true_eq]
 exact (fr _).trans (Ev.s3 R _ _ _)
theorem repK_lp {x513 x518 x519 x520 x522 x523 x526 x527 x528 x529 x530 : Int} {x515 x524 x525 : List Int} {x516 : List tTNode} {m : Nat} (hm : m ≤ 4096) : ∀ (j k : Nat) (o : List Int), k + j = m → o.length = k →
  ∃ o' : List Int, ∀ Kx : Nat → List Int → List tTNode → List Int → Int → Int → Int → Int → Int → Int → Prop, (Ev (fun n => spec_l15Fit.l34 n x513 x515 x516 x518 x519 x520 m x522 x523 x524 x525 x526 x527 x528 x529 x530 k o (Kx n)) ↔ Ev (fun n => Kx n x515 x516 o' x518 x526 x527 x528 x529 x530))
 | 0, k, o, h, ho => by
  refine ⟨o, fun Kx => Ev.suc.trans ?_⟩
  simp (disch := omega) only [spec_l15Fit.l34, spec_l15Fit.l34.b, if_neg, decide_eq_true_eq]
  exact Ev.s9 Kx _ _ _ _ _ _ _ _ _
 | j + 1, k, o, h, ho => by
  obtain ⟨o', hh⟩ := repK_lp (x513 := x513) (x518 := x518) (x519 := x519) (x520 := x520) (x522 := x522) (x523 := x523) (x526 := x526) (x527 := x527) (x528 := x528) (x529 := x529) (x530 := x530) (x515 := x515) (x524 := x524) (x525 := x525) (x516 := x516) hm j (k + 1) (o ++ [x513]) (by omega) (by simp; omega)
  refine ⟨o', fun Kx => Ev.suc.trans ?_⟩
  have ew : IntKind.wrap .i64 ((k : Int) + 1) = ((k + 1 : Nat) : Int) := wrap64 (by omega) (by omega)
  simp (disch := first | omega | (simp only [List.length_cons, List.length_nil]; omega)) only [spec_l15Fit.l34, spec_l15Fit.l34.b, if_pos, decide_eq_true_eq, grd_dec, ew]
  exact (hh (fun n => Kx (n + 1))).trans (Ev.s9 Kx _ _ _ _ _ _ _ _ _)
theorem flat9_lp {t x595 : List tTNode} {x597 x599 x600 x601 x602 : Int} {x603 ks : List Int} (hl : ks.length ≤ 4096) (hk : ∀ k ∈ ks, KIn t k ∧ (rd t k.toNat).2.2.2.2.2.2.length ≤ 4096) : ∀ (ys : List Int) (x : Int), ks.drop x.toNat = ys → 0 ≤ x →
  ∀ (Kx : Nat → List tTNode → Int → Prop) (Kr : Nat → Bool → List tTNode → Int → Prop) (S : Nat → Prop), (∀ l i, (Ev (fun n => Kr n true l i) ↔ Ev S)) →
  (Ev (fun n => spec_l15Fit.l43 n x595 t x597 3 x599 x600 x601 x602 x603 ks x (Kx n) (Kr n)) ↔ if (ys.any fun k => decide ((rd t k.toNat).1 = 3)) = true then Ev S else Ev (fun n => Kx n x595 x597))
 | [], x, h, h0, Kx, Kr, S, hS => by
  have := drop_nil h h0
  refine Ev.suc.trans ?_
  simp (disch := omega) only [spec_l15Fit.l43, spec_l15Fit.l43.b, if_pos, if_neg, decide_eq_true_eq]
  rw [if_neg (by simp)]
  exact Ev.s2 Kx _ _
 | y :: ys, x, h, h0, Kx, Kr, S, hS => by
  obtain ⟨e1, e2, e3⟩ := drop_cons h h0
  have hmem : y ∈ ks := by
   rw [← e2, rd, List.getD_eq_getElem?_getD, List.getElem?_eq_getElem (by omega)]; exact List.getElem_mem _
  obtain ⟨⟨k1, k2⟩, k3⟩ := hk y hmem
  have ih := flat9_lp (x595 := x595) (x597 := x597) (x599 := x599) (x600 := x600) (x601 := x601) (x602 := x602) (x603 := x603) hl hk ys (x + 1) e3 (by omega) (fun n => Kx (n + 1)) (fun n => Kr (n + 1)) S (fun l i => (Ev.s3 Kr _ _ _).trans (hS l i))
  rw [Ev.s2 Kx] at ih
  have ew : IntKind.wrap .i64 (x + 1) = x + 1 := wrap64 (by omega) (by omega)
  have g1 : (0 ≤ x ∧ x ≤ (ks.length : Int)) ∧ 0 ≤ x := by omega
  have g4 : x + 1 ≤ (ks.length : Int) := by omega
  refine Ev.suc.trans ?_
  simp (disch := first | omega | (simp only [List.length_append, List.length_drop, List.length_take, List.length_nil]; omega)) only [spec_l15Fit.l43, spec_l15Fit.l43.b, spec_l15Fit.j4, if_pos, if_true, decide_eq_true_eq, grd_dec2, grd_dec3, grd_dec, Bool.and_true, e2, ew, node15_ev, ih, Ev.iteI]
  have ea : ((y :: ys).any fun k => decide ((rd t k.toNat).1 = 3)) = (decide ((rd t y.toNat).1 = 3) || ys.any fun k => decide ((rd t k.toNat).1 = 3)) := List.any_cons
  rw [ea]
  by_cases c : (rd t y.toNat).1 = 3
  ·rw [if_pos c, decide_eq_true c, if_pos (by rfl)]
   exact (Ev.s3 Kr _ _ _).trans (hS _ _)
  ·rw [if_neg c, decide_eq_false c, Bool.false_or]
end Go.Vsi
end

section
set_option linter.unusedVariables false
set_option linter.unusedSimpArgs false
set_option synthInstance.maxSize 4096
namespace Go.Vsi
theorem rd_in {α : Type} [Inhabited α] {l : List α} {k : Nat} (h : k < l.length) : rd l k ∈ l := by
 rw [rd, List.getD_eq_getElem?_getD, List.getElem?_eq_getElem h]; exact List.getElem_mem h
theorem fit_q16 {b : Bool} {t : List tTNode} {i a2 a3 a4 a5 a6 b1 b2 b3 b4 b5 : Int} {a7 a8 b6 bk : List Int} (hk : b = true → bk ≠ []) (R : Nat → Bool → Prop) (S : Nat → List tTNode → Int → Prop) :
  Ev (fun n => spec_l15Fit.q16 n b t i a2 a3 a4 a5 a6 a7 a8 b1 b2 b3 b4 b5 b6 bk (fun c _ _ => R n c) (S n)) ↔ if b = true then Ev (fun n => R n true) else Ev (fun n => S n t i) := by
 refine Ev.suc.trans ?_
 simp only [spec_l15Fit.q16, spec_l15Fit.q16.b, Ev.iteI]
 by_cases hb : b = true
 ·have hl : (0 : Int) < (bk.length : Int) := by
   have := hk hb
   cases bk with
   | nil => exact absurd rfl this
   | cons x r => simp only [List.length_cons]; omega
  rw [if_pos hb, if_pos hb]
  simp (disch := assumption) only [grd_dec, node15_ev, and_self, Ev.andI]
  exact Ev.s1 R _
 ·rw [if_neg hb, if_neg hb]; exact Ev.s2 S _ _
theorem fit_q10 {d : List tDecl} {t : List tTNode} {wide : List Int} {p : Nat} (h : NodeAt d t wide p) (ha : ∀ q, q < t.length → NodeAt d t wide q) {rule : Int} (h1 : 1 ≤ rule) (h2 : rule ≤ 11) (h10 : rule ≠ 10) (hne : (rd t p).2.2.2.2.2.2 ≠ []) {turn : Bool} (hturn : turn = decide ((rd t p).1 = 7 ∨ (rd t p).1 = 8)) (R : Nat → Bool → Prop) :
  Ev (fun n => spec_l15Fit.q10 n wide rule (rd (rd t p).2.2.2.2.2.2 0) (rd wide (rd (rd t p).2.2.2.2.2.2 0).toNat) turn [] t 0 (rd t p).1 (rd t p).2.1 (rd t p).2.2.1 (rd t p).2.2.2.1 (rd t p).2.2.2.2.1 (rd t p).2.2.2.2.2.1 (rd t p).2.2.2.2.2.2
   (rd t (rd (rd t p).2.2.2.2.2.2 0).toNat).1 (rd t (rd (rd t p).2.2.2.2.2.2 0).toNat).2.1 (rd t (rd (rd t p).2.2.2.2.2.2 0).toNat).2.2.1 (rd t (rd (rd t p).2.2.2.2.2.2 0).toNat).2.2.2.1 (rd t (rd (rd t p).2.2.2.2.2.2 0).toNat).2.2.2.2.1 (rd t (rd (rd t p).2.2.2.2.2.2 0).toNat).2.2.2.2.2.1 (rd t (rd (rd t p).2.2.2.2.2.2 0).toNat).2.2.2.2.2.2
   (fun b _ _ => R n b) (fun b _ _ => R n b) (fun b _ _ => R n b) (fun b _ _ => R n b) (fun b _ _ => R n b) (fun b _ _ => R n b) (fun b _ _ => R n b) (fun b _ _ => R n b) (fun b _ _ => R n b) (fun b _ _ => R n b) (fun b _ _ => R n b)) ↔ Ev (fun n => R n (fitsB t wide p rule)) := by
 have hmem : rd (rd t p).2.2.2.2.2.2 0 ∈ (rd t p).2.2.2.2.2.2 := rd_in (List.length_pos_iff.2 hne)
 have hkin := h.kin _ hmem
 have hkw := h.kw _ hmem
 have hq := ha (rd (rd t p).2.2.2.2.2.2 0).toNat (by omega)
 have hwl := h.wl
 have hkl := h.kl
 refine Ev.suc.trans ?_
 rcases (show rule = 1 ∨ rule = 2 ∨ rule = 3 ∨ rule = 4 ∨ rule = 5 ∨ rule = 6 ∨ rule = 7 ∨ rule = 8 ∨ rule = 9 ∨ rule = 11 by omega) with rfl | rfl | rfl | rfl | rfl | rfl | rfl | rfl | rfl | rfl
 ·simp (disch := omega) only [spec_l15Fit.q10, spec_l15Fit.q10.b, spec_l15Fit.j6, if_pos, if_neg, if_true, decide_eq_true_eq, Ev.iteI, fitsB, kid15_ev, wrap64, Ev.s1 R]
  by_cases c1 : (rd t p).1 = 4
  ·by_cases c2 : (rd t p).2.2.2.1 = 0
   ·by_cases c3 : (rd t p).2.2.1 = rd wide (rd (rd t p).2.2.2.2.2.2 0).toNat - 1
    ·rw [if_pos c1, if_pos c3, if_pos c2, decide_eq_true ⟨c1, c2, c3⟩]
    ·rw [if_pos c1, if_neg c3, decide_eq_false (fun h => c3 h.2.2)]
   ·rw [if_pos c1, decide_eq_false (fun h => c2 h.2.1), if_neg c2]; split <;> rfl
  ·rw [if_neg c1, decide_eq_false (fun h => c1 h.1)]
 ·simp (disch := omega) only [spec_l15Fit.q10, spec_l15Fit.q10.b, spec_l15Fit.j6, if_pos, if_neg, if_true, decide_eq_true_eq, Ev.iteI, fitsB]
  have q := fun (b : Bool) hb (S : Nat → List tTNode → Int → Prop) => fit_q16 (b := b) (t := []) (i := 0) (a2 := (rd t p).1) (a3 := (rd t p).2.1) (a4 := (rd t p).2.2.1) (a5 := (rd t p).2.2.2.1) (a6 := (rd t p).2.2.2.2.1) (a7 := (rd t p).2.2.2.2.2.1) (a8 := (rd t p).2.2.2.2.2.2) (b1 := (rd t (rd (rd t p).2.2.2.2.2.2 0).toNat).1) (b2 := (rd t (rd (rd t p).2.2.2.2.2.2 0).toNat).2.1) (b3 := (rd t (rd (rd t p).2.2.2.2.2.2 0).toNat).2.2.1) (b4 := (rd t (rd (rd t p).2.2.2.2.2.2 0).toNat).2.2.2.1) (b5 := (rd t (rd (rd t p).2.2.2.2.2.2 0).toNat).2.2.2.2.1) (b6 := (rd t (rd (rd t p).2.2.2.2.2.2 0).toNat).2.2.2.2.2.1) (bk := (rd t (rd (rd t p).2.2.2.2.2.2 0).toNat).2.2.2.2.2.2) hb (fun n => R (n + 1)) S
  by_cases c1 : (rd t p).1 = 4
  ·rw [if_pos c1]
   refine (q _ (fun hb => ?_) (fun n _ _ => R (n + 1) false)).trans ?_
   ·rw [decide_eq_true_eq] at hb
    obtain ⟨k, k1, _⟩ := hq.kid (by omega)
    rw [k1]; exact List.cons_ne_nil _ _
   ·by_cases c2 : (rd t (rd (rd t p).2.2.2.2.2.2 0).toNat).1 = 4
    ·rw [decide_eq_true c2, if_pos rfl, decide_eq_true ⟨c1, c2⟩]; exact Ev.s1 R _
    ·rw [decide_eq_false c2, if_neg (by decide), decide_eq_false (fun h => c2 h.2)]; exact Ev.s1 R _
  ·rw [if_neg c1, decide_eq_false (fun h => c1 h.1)]
   refine (q false (fun hb => absurd hb (by decide)) (fun n _ _ => R (n + 1) false)).trans ?_
   rw [if_neg (by decide)]; exact Ev.s1 R _
 ·simp (disch := omega) only [spec_l15Fit.q10, spec_l15Fit.q10.b, spec_l15Fit.j6, if_pos, if_neg, if_true, decide_eq_true_eq, Ev.iteI, fitsB, hturn, Ev.s1 R]
  by_cases c1 : (rd t p).1 = 7 ∨ (rd t p).1 = 8
  ·obtain ⟨k, k1, k2, k3, k4, k5, k6, k7, k8⟩ := h.kid (by omega)
   have nz : ¬ rd wide (rd (rd t p).2.2.2.2.2.2 0).toNat = 0 := by omega
   have tm : Int.tmod (rd t p).2.2.1 (rd wide (rd (rd t p).2.2.2.2.2.2 0).toNat) = (rd t p).2.2.1 % rd wide p := by
    rw [tmodP k5, k8 c1, k1]; rfl
   rw [if_pos c1]
   simp (disch := assumption) only [grd_not, tm, kid15_ev, Ev.iteI, Ev.s1 R]
   by_cases c2 : (rd t p).2.2.1 % rd wide p = 0
   ·rw [if_pos c2, decide_eq_true ⟨c1, c2⟩]
   ·rw [if_neg c2, decide_eq_false (fun h => c2 h.2)]
  ·rw [if_neg c1, decide_eq_false (fun h => c1 h.1)]
 ·simp (disch := omega) only [spec_l15Fit.q10, spec_l15Fit.q10.b, spec_l15Fit.j6, spec_l15Fit.j7, if_pos, if_neg, if_true, decide_eq_true_eq, Bool.false_eq_true, if_false, Ev.iteI, fitsB, node15_ev, Ev.s1 R]
  by_cases c1 : (rd t p).1 = 8
  ·obtain ⟨k, k1, k2, k3, k4, k5, k6, k7, k8⟩ := h.kid (by omega)
   have nz : ¬ rd wide (rd (rd t p).2.2.2.2.2.2 0).toNat = 0 := by omega
   have tm : Int.tmod (rd t p).2.2.1 (rd wide (rd (rd t p).2.2.2.2.2.2 0).toNat) = (rd t p).2.2.1 % rd wide p := by
    rw [tmodP k5, k8 (Or.inr c1), k1]; rfl
   rw [if_pos c1]
   simp (disch := assumption) only [grd_not, tm, node15_ev, Ev.iteI, Bool.not_eq_true', decide_eq_false_iff_not, Ev.s1 R]
   by_cases c2 : (rd t p).2.2.1 % rd wide p = 0
   ·rw [if_neg (show ¬ ¬ (rd t p).2.2.1 % rd wide p = 0 from fun h => h c2), decide_eq_false (fun h => h.2 c2)]
   ·rw [if_pos c2, decide_eq_true ⟨c1, c2⟩]
  ·rw [if_neg c1, decide_eq_false (fun h => c1 h.1)]
 ·simp (disch := omega) only [spec_l15Fit.q10, spec_l15Fit.q10.b, spec_l15Fit.j6, if_pos, if_neg, if_true, decide_eq_true_eq, decide_eq_false_iff_not, Ev.iteI, fitsB, kid15_ev, Ev.s1 R]
  by_cases c2 : (rd t p).2.2.1 = 0
  ·by_cases c5 : (rd t p).1 = 5
   ·rw [if_neg (show ¬ ¬ (rd t p).1 = 5 from fun h => h c5), if_pos c2, decide_eq_true ⟨Or.inl c5, c2⟩]
   ·by_cases c6 : (rd t p).1 = 6
    ·rw [if_pos c5, if_pos c6, if_pos c2, decide_eq_true ⟨Or.inr c6, c2⟩]
    ·rw [if_pos c5, if_neg c6, decide_eq_false (fun h => h.1.elim c5 c6)]
  ·rw [decide_eq_false (fun h => c2 h.2)]
   (repeat' split) <;> first | rfl | omega
 ·simp (disch := omega) only [spec_l15Fit.q10, spec_l15Fit.q10.b, spec_l15Fit.j6, spec_l15Fit.j8, if_pos, if_neg, if_true, decide_eq_true_eq, Bool.false_eq_true, if_false, Ev.iteI, fitsB, Ev.s1 R]
  by_cases c1 : (rd t p).1 = 5
  ·rw [if_pos c1]
   by_cases c2 : (rd t p).2.2.1 > 0
   ·obtain ⟨k, k1, k2, k3, k4, k5, k6, k7, k8⟩ := h.kid (by omega)
    obtain ⟨w, hw⟩ : ∃ w : Nat, (rd t p).2.2.1 = w := ⟨(rd t p).2.2.1.toNat, by omega⟩
    rw [if_pos c2, decide_eq_true ⟨c1, c2⟩]
    rw [hw]
    exact (bitsOf0_ev (w := w) (by omega) (by omega) _).trans (Ev.s1 R _)
   ·rw [if_neg c2, decide_eq_false (fun h => c2 h.2)]
  ·rw [if_neg c1, decide_eq_false (fun h => c1 h.1)]
 ·simp (disch := omega) only [spec_l15Fit.q10, spec_l15Fit.q10.b, spec_l15Fit.j6, spec_l15Fit.j9, if_pos, if_neg, if_true, decide_eq_true_eq, Bool.false_eq_true, if_false, Ev.iteI, fitsB, Ev.s1 R]
  by_cases c1 : (rd t p).1 = 9
  ·rw [if_pos c1]
   by_cases c2 : (rd t p).2.2.1 > 1
   ·obtain ⟨k, k1, k2, k3, k4, k5, k6, k7, k8⟩ := h.kid (by omega)
    obtain ⟨w, hw⟩ : ∃ w : Nat, (rd t p).2.2.1 = w := ⟨(rd t p).2.2.1.toNat, by omega⟩
    rw [if_pos c2, decide_eq_true ⟨c1, c2⟩]
    rw [hw]
    obtain ⟨o', hh⟩ := repK_lp (x513 := rd (rd t p).2.2.2.2.2.2 0) (x518 := 0) (x519 := (rd t p).1) (x520 := (rd t p).2.1) (x522 := (rd t p).2.2.2.1) (x523 := (rd t p).2.2.2.2.1) (x526 := 3) (x527 := 0) (x528 := 0) (x529 := 0) (x530 := 0) (x515 := []) (x524 := (rd t p).2.2.2.2.2.1) (x525 := (rd t p).2.2.2.2.2.2) (x516 := []) (m := w) (by omega) w 0 [] (by omega) rfl
    refine (hh _).trans ?_
    exact (node15_ev (fun n _ _ b => R (n + 1) b)).trans (Ev.s1 R _)
   ·rw [if_neg c2, decide_eq_false (fun h => c2 h.2)]
  ·rw [if_neg c1, decide_eq_false (fun h => c1 h.1)]
 ·simp (disch := omega) only [spec_l15Fit.q10, spec_l15Fit.q10.b, spec_l15Fit.j6, if_pos, if_neg, if_true, decide_eq_true_eq, Ev.iteI, fitsB, kid15_ev, Ev.s1 R]
  by_cases c1 : (rd t p).1 = 9
  ·by_cases c2 : (rd t p).2.2.1 = 1
   ·rw [if_pos c1, if_pos c2, decide_eq_true ⟨c1, c2⟩]
   ·rw [if_pos c1, if_neg c2, decide_eq_false (fun h => c2 h.2)]
  ·rw [if_neg c1, decide_eq_false (fun h => c1 h.1)]
 ·simp (disch := omega) only [spec_l15Fit.q10, spec_l15Fit.q10.b, spec_l15Fit.j6, if_pos, if_neg, if_true, decide_eq_true_eq, fitsB]
  by_cases c1 : (rd t p).1 = 3
  ·rw [c1]
   refine (flat9_lp (x595 := []) (x597 := 0) (x599 := (rd t p).2.1) (x600 := (rd t p).2.2.1) (x601 := (rd t p).2.2.2.1) (x602 := (rd t p).2.2.2.2.1) (x603 := (rd t p).2.2.2.2.2.1) hkl (fun k hk => ⟨h.kin k hk, (ha k.toNat (by have := h.kin k hk; omega)).kl⟩) (rd t p).2.2.2.2.2.2 0 rfl (by omega) (fun n _ _ => R (n + 1) false) (fun n b _ _ => R (n + 1) b) (fun n => R (n + 1) true) (fun _ _ => Iff.rfl)).trans ?_
   cases ((rd t p).2.2.2.2.2.2.any fun k => decide ((rd t k.toNat).1 = 3))
   ·rw [if_neg (by decide), Bool.and_false]; exact Ev.s1 R _
   ·rw [if_pos rfl, decide_eq_true rfl]; exact Ev.s1 R _
  ·rw [decide_eq_false c1, Bool.false_and]
   refine Ev.suc.trans ?_
   simp only [spec_l15Fit.l43, spec_l15Fit.l43.b, decide_eq_true_eq, if_neg c1]
   exact (Ev.s1 (fun n => R (n + 1)) false).trans (Ev.s1 R _)
 ·simp (disch := omega) only [spec_l15Fit.q10, spec_l15Fit.q10.b, spec_l15Fit.j6, spec_l15Fit.j10, if_pos, if_neg, if_true, decide_eq_true_eq, Bool.false_eq_true, if_false, Ev.iteI, fitsB, Ev.s1 R]
  by_cases c1 : (rd t p).1 = 4
  ·rw [if_pos c1]
   by_cases c2 : (rd t (rd (rd t p).2.2.2.2.2.2 0).toNat).1 = 3
   ·rw [if_pos c2, decide_eq_true ⟨c1, c2⟩, Bool.true_and]
    refine (innerS_ev hq.kl (fun j hj => ⟨(hq.kin j hj).1, by rw [hwl]; exact (hq.kin j hj).2, hq.kw j hj⟩) _ (fun n b => R (n + 1) b) (fun k f hk => ?_) ?_).trans (Ev.s1 R _)
    ·simp only [decide_eq_true_eq, if_pos (show k ≥ 0 from hk)]
     exact node15_ev (fun n _ _ b => R (n + 1) b)
    ·simp (disch := omega) only [decide_eq_true_eq, if_neg]
   ·rw [if_neg c2, decide_eq_false (fun h => c2 h.2), Bool.false_and]
  ·rw [if_neg c1, decide_eq_false (fun h => c1 h.1), Bool.false_and]
theorem fitsB_none {d : List tDecl} {t : List tTNode} {wide : List Int} {p : Nat} (h : NodeAt d t wide p) {rule : Int} (h10 : rule ≠ 10) (he : (rd t p).2.2.2.2.2.2 = []) : fitsB t wide p rule = false := by
 have ho : ¬ 4 ≤ (rd t p).1 := fun ho => by
  obtain ⟨k, k1, _⟩ := h.kid ho
  rw [he] at k1; cases k1
 unfold fitsB
 split
 ·exact decide_eq_false fun h => by omega
 split
 ·exact decide_eq_false fun h => by omega
 split
 ·exact decide_eq_false fun h => by omega
 split
 ·exact decide_eq_false fun h => by omega
 split
 ·exact decide_eq_false fun h => by omega
 split
 ·exact decide_eq_false fun h => by omega
 split
 ·exact decide_eq_false fun h => by omega
 split
 ·exact decide_eq_false fun h => by omega
 split
 ·rw [he, List.any_nil, Bool.and_false]
 ·rw [decide_eq_false (fun h => by omega), Bool.false_and]
theorem fits15_ev {d : List tDecl} {t : List tTNode} {wide : List Int} {p : Nat} (h : NodeAt d t wide p) (ha : ∀ q, q < t.length → NodeAt d t wide q) (hw : ∀ x ∈ t, Wd x.2.2.2.2.2.1) {rule : Int} (h1 : 1 ≤ rule) (h2 : rule ≤ 11) (R : Nat → Bool → Prop) :
  Ev (fun n => spec_l15Fit.c n t wide p rule (fun _ _ b => R n b)) ↔ Ev (fun n => R n (fitsB t wide p rule)) := by
 have hp := h.pl
 have hwl := h.wl
 refine Ev.suc.trans ?_
 simp (disch := omega) only [spec_l15Fit.c, spec_l15Fit.w, grd_dec2, Int.toNat_natCast, decide_eq_true_eq, decide_eq_false_iff_not, Ev.iteI]
 by_cases h10 : rule = 10
 ·rw [if_pos h10]
  refine (const_ev h ha hw (fun n => R (n + 1))).trans ?_
  subst h10
  rw [fitsB]
  simp (disch := omega) only [if_neg, if_pos, if_true]
  exact Ev.s1 R _
 ·rw [if_neg h10]
  by_cases he : (rd t p).2.2.2.2.2.2 = []
  ·rw [if_pos (by rw [he]; rfl), fitsB_none h h10 he]; exact Ev.s1 R _
  ·have hpos := List.length_pos_iff.2 he
   have hmem : rd (rd t p).2.2.2.2.2.2 0 ∈ (rd t p).2.2.2.2.2.2 := rd_in hpos
   have hkin := h.kin _ hmem
   rw [if_neg (by omega)]
   simp (disch := omega) only [grd_dec, grd_dec2, Ev.iteI]
   by_cases c7 : (rd t p).1 = 7
   ·rw [if_neg (show ¬ ¬ (rd t p).1 = 7 from fun h => h c7)]
    exact (fit_q10 h ha h1 h2 h10 he (turn := true) (decide_eq_true (Or.inl c7)).symm (fun n => R (n + 1))).trans (Ev.s1 R _)
   ·rw [if_pos c7]
    refine (fit_q10 h ha h1 h2 h10 he (turn := decide ((rd t p).1 = 8)) ?_ (fun n => R (n + 1))).trans (Ev.s1 R _)
    rw [decide_eq_decide]
    exact ⟨Or.inr, fun h => h.elim (fun h => absurd h c7) id⟩
end Go.Vsi
end

section
set_option linter.unusedVariables false
set_option linter.unusedSimpArgs false
set_option synthInstance.maxSize 4096
namespace Go.Vsi
def rulesGo (t : List tTNode) (wide : List Int) (p : Nat) : Nat → Int → List Int
 | 0, _ => []
 | m + 1, x => if fitsB t wide p x = true then x :: rulesGo t wide p m (x + 1) else rulesGo t wide p m (x + 1)
theorem rulesGo_len {t : List tTNode} {wide : List Int} {p : Nat} : ∀ {m : Nat} {x : Int}, (rulesGo t wide p m x).length ≤ m
 | 0, x => Nat.le_refl _
 | m + 1, x => by
  have := rulesGo_len (t := t) (wide := wide) (p := p) (m := m) (x := x + 1)
  rw [rulesGo]; split
  ·simp only [List.length_cons]; omega
  ·omega
theorem rulesI_lp {d : List tDecl} {t : List tTNode} {wide : List Int} {p : Nat} (h : NodeAt d t wide p) (ha : ∀ q, q < t.length → NodeAt d t wide q) : ∀ (m : Nat) (x : Int) (o : List Int), x + m = 12 → 1 ≤ x → o.length ≤ 11 - m →
  ∀ Kx : Nat → List Int → Prop, (Ev (fun n => impl_Rules.l9 n p wide t x o (Kx n)) ↔ Ev (fun n => Kx n (o ++ rulesGo t wide p m x)))
 | 0, x, o, hx, h1, ho, Kx => by
  refine Ev.suc.trans ?_
  simp (disch := omega) only [impl_Rules.l9, impl_Rules.l9.b, if_neg, decide_eq_true_eq, Ev.s1 Kx, rulesGo, List.append_nil]
 | m + 1, x, o, hx, h1, ho, Kx => by
  have ft := fun R => fitsI_ev h ha (rule := x) h1 (by omega) R
  have ew : IntKind.wrap .i64 (x + 1) = x + 1 := wrap64 (by omega) (by omega)
  have i1 := rulesI_lp h ha m (x + 1) (o ++ [x]) (by omega) (by omega) (by simp; omega) (fun n => Kx (n + 1))
  have i2 := rulesI_lp h ha m (x + 1) o (by omega) (by omega) (by omega) (fun n => Kx (n + 1))
  refine Ev.suc.trans ?_
  simp (disch := first | omega | (simp only [List.length_cons, List.length_nil]; omega)) only [impl_Rules.l9, impl_Rules.l9.b, if_pos, decide_eq_true_eq, ft, Ev.iteI, grd_dec, ew, i1, i2]
  rw [rulesGo]
  by_cases c : fitsB t wide p x = true
  ·rw [if_pos c, if_pos c, List.append_assoc]; exact Ev.s1 Kx _
  ·rw [if_neg c, if_neg c]; exact Ev.s1 Kx _
theorem rulesS_lp {d : List tDecl} {t : List tTNode} {wide : List Int} {p : Nat} (h : NodeAt d t wide p) (ha : ∀ q, q < t.length → NodeAt d t wide q) (hw : ∀ x ∈ t, Wd x.2.2.2.2.2.1) : ∀ (m : Nat) (x : Int) (o : List Int), x + m = 12 → 1 ≤ x → o.length ≤ 11 - m →
  ∀ Kx : Nat → List Int → Prop, (Ev (fun n => spec_Rules.l6 n p wide t x o (Kx n)) ↔ Ev (fun n => Kx n (o ++ rulesGo t wide p m x)))
 | 0, x, o, hx, h1, ho, Kx => by
  refine Ev.suc.trans ?_
  simp (disch := omega) only [spec_Rules.l6, spec_Rules.l6.b, if_neg, decide_eq_true_eq, Ev.s1 Kx, rulesGo, List.append_nil]
 | m + 1, x, o, hx, h1, ho, Kx => by
  have ew : IntKind.wrap .i64 (x + 1) = x + 1 := wrap64 (by omega) (by omega)
  have i1 := rulesS_lp h ha hw m (x + 1) (o ++ [x]) (by omega) (by omega) (by simp; omega) (fun n => Kx (n + 1))
  have i2 := rulesS_lp h ha hw m (x + 1) o (by omega) (by omega) (by omega) (fun n => Kx (n + 1))
  refine Ev.suc.trans ?_
  simp (disch := first | omega | (simp only [List.length_cons, List.length_nil]; omega)) only [spec_Rules.l6, spec_Rules.l6.b, if_pos, decide_eq_true_eq, grd_dec, ew]
  refine (fits15_ev h ha hw (rule := x) h1 (by omega) (fun n b => if b = true then spec_Rules.l6 n p wide t (x + 1) (o ++ [x]) (Kx (n + 1)) else spec_Rules.l6 n p wide t (x + 1) o (Kx (n + 1)))).trans ?_
  simp only [Ev.iteI]
  rw [rulesGo]
  by_cases c : fitsB t wide p x = true
  ·rw [if_pos c, if_pos c]
   refine i1.trans ?_
   rw [List.append_assoc]; exact Ev.s1 Kx _
  ·rw [if_neg c, if_neg c]
   exact i2.trans (Ev.s1 Kx _)
theorem widthsI_wl {d : List tDecl} {t : List tTNode} (h : (widthsI d t).2 = true) : (widthsI d t).1.length = t.length ∧ 1 ≤ t.length ∧ t.length ≤ 400 := by
 have h0 := h
 unfold widthsI at h0
 split at h0
 ·rename_i hc
  exact ⟨(nodesAt h 0 (by omega)).wl, hc⟩
 ·cases h0
def rulesOf (d : List tDecl) (t : List tTNode) (place : Int) : List Int :=
 if declsOk d = true ∧ (widthsI d t).2 = true ∧ 0 ≤ place ∧ place ≤ (t.length : Int) - 1 then rulesGo t (widthsI d t).1 place.toNat 11 1 else []
theorem rulesOf_len {d : List tDecl} {t : List tTNode} {place : Int} : (rulesOf d t place).length ≤ 11 := by
 unfold rulesOf
 split
 ·exact rulesGo_len
 ·exact Nat.zero_le _
theorem rulesOf_ev {d : List tDecl} {t : List tTNode} {place : Int} (hd : d.length ≤ 1048576) (ht : t.length ≤ 1048576) (R : Nat → List Int → Prop) :
  Ev (fun n => impl_Rules.c n d t place (R n)) ↔ Ev (fun n => R n (rulesOf d t place)) := by
 have wd := fun R => widths_ev (d := d) (t := t) (by omega) R
 have ew : IntKind.wrap .i64 ((t.length : Int) - 1) = (t.length : Int) - 1 := wrap64 (by omega) (by omega)
 refine Ev.suc.trans ?_
 simp only [impl_Rules.c, impl_Rules.w, impl_Rules.j0, declsOk_ev, wd, ew, inside_ev, Ev.iteI, Bool.not_eq_true', Bool.not_eq_false', decide_eq_false_iff_not, Ev.s1 R, rulesOf]
 by_cases h1 : declsOk d = true
 ·rw [if_neg (by rw [h1]; decide)]
  by_cases h2 : (widthsI d t).2 = true
  ·rw [if_pos h2]
   by_cases h3 : 0 ≤ place ∧ place ≤ (t.length : Int) - 1
   ·rw [if_neg (show ¬ ¬ (0 ≤ place ∧ place ≤ (t.length : Int) - 1) from fun h => h h3), if_pos ⟨h1, h2, h3⟩]
    obtain ⟨p, rfl⟩ : ∃ p : Nat, place = p := ⟨place.toNat, by omega⟩
    have na := nodesAt h2
    have lp := rulesI_lp (na p (by omega)) na 11 1 [] (by omega) (by omega) (by simp) (fun n => R (n + 1))
    rw [Int.toNat_natCast]
    exact lp.trans (Ev.s1 R _)
   ·rw [if_pos h3, if_neg (fun h => h3 h.2.2)]
  ·rw [if_neg h2, if_neg (fun h => h2 h.2.1)]
 ·rw [if_pos (by simpa using h1), if_neg (fun h => h1 h.1)]
theorem rulesOfS_ev {d : List tDecl} {t : List tTNode} {place : Int} (hd : d.length ≤ 1048576) (ht : t.length ≤ 1048576) (hy : ∀ x : tTNode, x ∈ t → Wd x.2.2.2.2.2.1 ∧ x.2.2.2.2.2.2.length ≤ 1099511627776) (R : Nat → List Int → Prop) :
  Ev (fun n => spec_Rules.c n d t place (R n)) ↔ Ev (fun n => R n (rulesOf d t place)) := by
 have wd := fun R => widthsS_ev (d := d) (t := t) (by omega) hy R
 have ew : IntKind.wrap .i64 ((t.length : Int) - 1) = (t.length : Int) - 1 := wrap64 (by omega) (by omega)
 refine Ev.suc.trans ?_
 simp only [spec_Rules.c, spec_Rules.w, wd]
 by_cases h : declsOk d = true ∧ (widthsI d t).2 = true
 ·obtain ⟨w1, w2, w3⟩ := widthsI_wl h.2
  rw [if_pos h]
  simp only [ew, l1In_ev, Ev.iteI, Bool.not_eq_true', decide_eq_false_iff_not, Ev.s1 R, rulesOf]
  rw [if_pos (show ¬ ((widthsI d t).1.length : Int) = 0 by omega)]
  by_cases h3 : 0 ≤ place ∧ place ≤ (t.length : Int) - 1
  ·rw [if_neg (show ¬ ¬ (0 ≤ place ∧ place ≤ (t.length : Int) - 1) from fun h => h h3), if_pos ⟨h.1, h.2, h3⟩]
   obtain ⟨p, rfl⟩ : ∃ p : Nat, place = p := ⟨place.toNat, by omega⟩
   have na := nodesAt h.2
   have lp := rulesS_lp (na p (by omega)) na (fun x hx => (hy x hx).1) 11 1 [] (by omega) (by omega) (by simp) (fun n => R (n + 1))
   rw [Int.toNat_natCast]
   exact lp.trans (Ev.s1 R _)
  ·rw [if_pos h3, if_neg (fun h => h3 h.2.2)]
 ·rw [if_neg h, rulesOf, if_neg (fun h' => h ⟨h'.1, h'.2.1⟩)]
  simp only [List.length_nil, Int.natCast_zero, decide_true, Bool.true_eq_false, if_false, Ev.s1 R]
end Go.Vsi
end

section
set_option linter.unusedVariables false
set_option linter.unusedSimpArgs false
namespace Go.Vsi
def decGo : Nat → Int → List UInt8 → List UInt8
 | 0, _, out => out
 | f + 1, k, out => if k > 0 then decGo f (k / 10) (bytesStr [48 + k % 10] ++ out) else out
theorem decGo_len : ∀ (f : Nat) (k : Int) (out : List UInt8), (decGo f k out).length ≤ out.length + f
 | 0, k, out => Nat.le_refl _
 | f + 1, k, out => by
  rw [decGo]
  split
  ·have := decGo_len f (k / 10) (bytesStr [48 + k % 10] ++ out)
   have e : (bytesStr [48 + k % 10]).length = 1 := rfl
   rw [List.length_append, e] at this
   omega
  ·omega
theorem digit_byte {k : Int} (h : 0 < k) (hb : k < 9223372036854775808) : IntKind.wrap .u8 (IntKind.wrap .i64 (48 + Int.tmod k 10)) = 48 + k % 10 := by
 rw [tmodP (by omega), wrap64 (by omega) (by omega), wrap8 (by omega) (by omega)]
theorem mText_lp : ∀ (f : Nat) (k : Int) (out : List UInt8), k < 10 ^ f → k < 9223372036854775808 → out.length + f ≤ 1000 → ∀ (Kx : Nat → List UInt8 → Prop),
  (Ev (fun n => laws_markText.l4 n k out (Kx n)) ↔ Ev (fun n => Kx n (decGo f k out)))
 | 0, k, out, h, hb, hl, Kx => by
  have h : k < 1 := h
  refine Ev.suc.trans ?_
  simp (disch := omega) only [laws_markText.l4, laws_markText.l4.b, if_neg, decide_eq_true_eq, Ev.s1 Kx, decGo]
 | f + 1, k, out, h, hb, hl, Kx => by
  rw [decGo]
  refine Ev.suc.trans ?_
  simp only [laws_markText.l4, laws_markText.l4.b, Ev.iteI, decide_eq_true_eq]
  by_cases hk : k > 0
  ·rw [if_pos hk, if_pos hk]
   have e : IntKind.wrap .i64 (Int.tdiv k 10) = k / 10 := by rw [tdivP (by omega), wrap64 (by omega) (by omega)]
   have hp : (10 : Int) ^ (f + 1) = 10 ^ f * 10 := Int.pow_succ 10 f
   simp (disch := (simp only [bytesStr, List.map_cons, List.map_nil, List.length_cons, List.length_nil]; omega)) only [digit_byte hk hb, e, grd_dec]
   rw [mText_lp f (k / 10) _ (by omega) (by omega) (by simp only [bytesStr, List.map_cons, List.map_nil, List.length_append, List.length_cons, List.length_nil]; omega), Ev.s1 Kx]
  ·rw [if_neg hk, if_neg hk, Ev.s1 Kx]
def mText (k : Int) : List UInt8 := [109] ++ decGo 19 k []
theorem markText_ev {k : Int} (h : 0 < k) (hb : k ≤ 4611686018427387904) (R : Nat → List UInt8 → Prop) :
  Ev (fun n => laws_markText.c n k (R n)) ↔ Ev (fun n => R n (mText k)) := by
 refine Ev.suc.trans ?_
 have := decGo_len 19 k []
 simp only [List.length_nil] at this
 simp only [laws_markText.c, laws_markText.w, Ev.iteI, decide_eq_true_eq]
 rw [if_neg (by omega), mText_lp 19 k [] (by omega) (by omega) (by simp)]
 simp (disch := (simp only [List.length_cons, List.length_nil]; omega)) only [grd_dec, Ev.s1 R, mText]
end Go.Vsi
end

section
set_option linter.unusedVariables false
set_option linter.unusedSimpArgs false
set_option synthInstance.maxSize 4096
namespace Go.Vsi
theorem laws_szDecl_ev {a0 : List UInt8} {a1 : Int} {left : Int} (h0 : -1 ≤ left) (h1 : left ≤ 1099511627776) (h2 : a0.length ≤ 9223372036854775807) (R : Nat → Int → Prop) :
  Ev (fun n => laws_szDecl.c n a0 a1 left (R n)) ↔ Ev (fun n => R n (szr left (a0.length))) := by
 refine Ev.suc.trans ?_
 simp (disch := first | assumption | omega | exact szr_m1 (by assumption) | exact szr_le' (by assumption) (by assumption)) only [laws_szDecl.c, laws_szDecl.w, wrap64, Ev.iteI, decide_eq_true_eq, Ev.s1 R]
 unfold szr; (repeat' split) <;> first | rfl | (exfalso; omega) | exact ev_arg (by omega)
def sDeclS : List tDecl → Nat
 | [] => 0
 | y :: r => y.1.length + sDeclS r
theorem sDeclS_mem {y : tDecl} : ∀ {l : List tDecl}, y ∈ l → y.1.length ≤ sDeclS l
 | [], h => absurd h List.not_mem_nil
 | a :: l, h => by
  rw [sDeclS]
  rcases List.mem_cons.1 h with rfl | h
  ·omega
  ·have := sDeclS_mem h; omega
abbrev yDecl : Ty := .prod .str (.int .i64)
theorem szDeclS_gd {l : List tDecl} (h : Gd (.sl 0 yDecl) l) : ∀ y : tDecl, y ∈ l → y.1.length ≤ 9223372036854775807 := fun y hy => (h.2 y hy).1
theorem laws_szDeclS_lp {l : List tDecl} (hl : l.length ≤ 9223372036854775807) : ∀ (ys : List tDecl) (x left : Int), l.drop x.toNat = ys → 0 ≤ x → 0 ≤ left → left ≤ 1099511627776 → (∀ y ∈ ys, y.1.length ≤ 9223372036854775807) → ∀ (Kx : Nat → Int → Prop),
  (Ev (fun n => laws_szDeclS.l5 n l left x (Kx n) (Kx n)) ↔ Ev (fun n => Kx n (szr left (sDeclS ys))))
 | [], x, left, h, h0, h1, h2, hy, Kx => by
  have := drop_nil h h0
  refine Ev.suc.trans ?_
  simp (disch := omega) only [laws_szDeclS.l5, laws_szDeclS.l5.b, if_neg, decide_eq_true_eq, Ev.s1 Kx, sDeclS]
  refine ev_arg ?_; unfold szr; split <;> omega
 | y :: ys, x, left, h, h0, h1, h2, hy, Kx => by
  obtain ⟨e1, e2, e3⟩ := drop_cons h h0
  have hy0 := hy y List.mem_cons_self
  refine Ev.suc.trans ?_
  simp (disch := first | assumption | exact hy0.1 | exact hy0.2 | exact hy0.2.1 | exact hy0.2.2 | exact hy0.2.2.1 | exact hy0.2.2.2 | omega) only [laws_szDeclS.l5, laws_szDeclS.l5.b, if_pos, decide_eq_true_eq, Ev.s1 Kx, grd_dec2, e2, laws_szDecl_ev, Ev.iteI, wrap64]
  split
  ·rename_i hs
   rw [sDeclS, szr_back hs]
  ·rename_i hs
   rw [laws_szDeclS_lp hl ys (x + 1) _ e3 (by omega) (by omega) (szr_le' (by omega) h2) (fun y hy' => hy y (List.mem_cons_of_mem _ hy')), sDeclS, szr_two h1 hs, Ev.s1 Kx]
theorem laws_szDeclS_ev {l : List tDecl} {left : Int} (h0 : -1 ≤ left) (h1 : left ≤ 1099511627776) (hl : l.length ≤ 9223372036854775807) (hy : ∀ y ∈ l, y.1.length ≤ 9223372036854775807) (R : Nat → Int → Prop) :
  Ev (fun n => laws_szDeclS.c n l left (R n)) ↔ Ev (fun n => R n (szr left (l.length + sDeclS l))) := by
 refine Ev.suc.trans ?_
 simp (disch := omega) only [laws_szDeclS.c, laws_szDeclS.w, wrap64, Ev.iteI, decide_eq_true_eq, Ev.s1 R]
 split
 ·refine ev_arg ?_; unfold szr; split <;> omega
 ·rw [laws_szDeclS_lp hl l 0 _ rfl (by omega) (by omega) (by omega) hy, Ev.s1 R]
  refine ev_arg ?_; unfold szr; (repeat' split) <;> omega
theorem laws_szUint64S_ev {l : List Int} {left : Int} (h0 : -1 ≤ left) (h1 : left ≤ 1099511627776) (hl : l.length ≤ 9223372036854775807) (R : Nat → Int → Prop) :
  Ev (fun n => laws_szUint64S.c n l left (R n)) ↔ Ev (fun n => R n (szr left l.length)) := by
 refine Ev.suc.trans ?_
 simp (disch := omega) only [laws_szUint64S.c, laws_szUint64S.w, wrap64, Ev.iteI, decide_eq_true_eq, Ev.s1 R]
 unfold szr; split <;> split <;> first | rfl | omega | exact ev_arg (by omega)
theorem laws_szBits_ev {a0 : Int} {a1 : List Int} {left : Int} (h0 : -1 ≤ left) (h1 : left ≤ 1099511627776) (h2 : a1.length ≤ 9223372036854775807) (R : Nat → Int → Prop) :
  Ev (fun n => laws_szBits.c n a0 a1 left (R n)) ↔ Ev (fun n => R n (szr left (a1.length))) := by
 refine Ev.suc.trans ?_
 simp (disch := first | assumption | omega | exact szr_m1 (by assumption) | exact szr_le' (by assumption) (by assumption)) only [laws_szBits.c, laws_szBits.w, laws_szUint64S_ev, wrap64, Ev.iteI, decide_eq_true_eq, Ev.s1 R]
 unfold szr; (repeat' split) <;> first | rfl | (exfalso; omega) | exact ev_arg (by omega)
theorem laws_szInt64S_ev {l : List Int} {left : Int} (h0 : -1 ≤ left) (h1 : left ≤ 1099511627776) (hl : l.length ≤ 9223372036854775807) (R : Nat → Int → Prop) :
  Ev (fun n => laws_szInt64S.c n l left (R n)) ↔ Ev (fun n => R n (szr left l.length)) := by
 refine Ev.suc.trans ?_
 simp (disch := omega) only [laws_szInt64S.c, laws_szInt64S.w, wrap64, Ev.iteI, decide_eq_true_eq, Ev.s1 R]
 unfold szr; split <;> split <;> first | rfl | omega | exact ev_arg (by omega)
theorem laws_szTNode_ev {a0 : Int} {a1 : Int} {a2 : Int} {a3 : Int} {a4 : Int} {a5 : List Int} {a6 : List Int} {left : Int} (h0 : -1 ≤ left) (h1 : left ≤ 1099511627776) (h2 : a5.length ≤ 9223372036854775807) (h3 : a6.length ≤ 9223372036854775807) (R : Nat → Int → Prop) :
  Ev (fun n => laws_szTNode.c n a0 a1 a2 a3 a4 a5 a6 left (R n)) ↔ Ev (fun n => R n (szr left (a5.length + a6.length))) := by
 refine Ev.suc.trans ?_
 simp (disch := first | assumption | omega | exact szr_m1 (by assumption) | exact szr_le' (by assumption) (by assumption)) only [laws_szTNode.c, laws_szTNode.w, laws_szBits_ev, laws_szInt64S_ev, wrap64, Ev.iteI, decide_eq_true_eq, Ev.s1 R]
 unfold szr; (repeat' split) <;> first | rfl | (exfalso; omega) | exact ev_arg (by omega)
def sTNodeS : List tTNode → Nat
 | [] => 0
 | y :: r => (y.2.2.2.2.2.1.length + y.2.2.2.2.2.2.length) + sTNodeS r
theorem sTNodeS_mem {y : tTNode} : ∀ {l : List tTNode}, y ∈ l → y.2.2.2.2.2.1.length + y.2.2.2.2.2.2.length ≤ sTNodeS l
 | [], h => absurd h List.not_mem_nil
 | a :: l, h => by
  rw [sTNodeS]
  rcases List.mem_cons.1 h with rfl | h
  ·omega
  ·have := sTNodeS_mem h; omega
abbrev yTNode : Ty := .prod (.int .i64) (.prod (.int .i64) (.prod (.int .i64) (.prod (.int .i64) (.prod (.int .i64) (.prod (.sl 0 (.int .u64)) (.sl 0 (.int .i64)))))))
theorem szTNodeS_gd {l : List tTNode} (h : Gd (.sl 0 yTNode) l) : ∀ y : tTNode, y ∈ l → y.2.2.2.2.2.1.length ≤ 9223372036854775807 ∧ y.2.2.2.2.2.2.length ≤ 9223372036854775807 := fun y hy => ⟨(h.2 y hy).2.2.2.2.2.1.1, (h.2 y hy).2.2.2.2.2.2.1⟩
theorem laws_szTNodeS_lp {l : List tTNode} (hl : l.length ≤ 9223372036854775807) : ∀ (ys : List tTNode) (x left : Int), l.drop x.toNat = ys → 0 ≤ x → 0 ≤ left → left ≤ 1099511627776 → (∀ y ∈ ys, y.2.2.2.2.2.1.length ≤ 9223372036854775807 ∧ y.2.2.2.2.2.2.length ≤ 9223372036854775807) → ∀ (Kx : Nat → Int → Prop),
  (Ev (fun n => laws_szTNodeS.l5 n l left x (Kx n) (Kx n)) ↔ Ev (fun n => Kx n (szr left (sTNodeS ys))))
 | [], x, left, h, h0, h1, h2, hy, Kx => by
  have := drop_nil h h0
  refine Ev.suc.trans ?_
  simp (disch := omega) only [laws_szTNodeS.l5, laws_szTNodeS.l5.b, if_neg, decide_eq_true_eq, Ev.s1 Kx, sTNodeS]
  refine ev_arg ?_; unfold szr; split <;> omega
 | y :: ys, x, left, h, h0, h1, h2, hy, Kx => by
  obtain ⟨e1, e2, e3⟩ := drop_cons h h0
  have hy0 := hy y List.mem_cons_self
  refine Ev.suc.trans ?_
  simp (disch := first | assumption | exact hy0.1 | exact hy0.2 | exact hy0.2.1 | exact hy0.2.2 | exact hy0.2.2.1 | exact hy0.2.2.2 | omega) only [laws_szTNodeS.l5, laws_szTNodeS.l5.b, if_pos, decide_eq_true_eq, Ev.s1 Kx, grd_dec2, e2, laws_szTNode_ev, Ev.iteI, wrap64]
  split
  ·rename_i hs
   rw [sTNodeS, szr_back hs]
  ·rename_i hs
   rw [laws_szTNodeS_lp hl ys (x + 1) _ e3 (by omega) (by omega) (szr_le' (by omega) h2) (fun y hy' => hy y (List.mem_cons_of_mem _ hy')), sTNodeS, szr_two h1 hs, Ev.s1 Kx]
theorem laws_szTNodeS_ev {l : List tTNode} {left : Int} (h0 : -1 ≤ left) (h1 : left ≤ 1099511627776) (hl : l.length ≤ 9223372036854775807) (hy : ∀ y ∈ l, y.2.2.2.2.2.1.length ≤ 9223372036854775807 ∧ y.2.2.2.2.2.2.length ≤ 9223372036854775807) (R : Nat → Int → Prop) :
  Ev (fun n => laws_szTNodeS.c n l left (R n)) ↔ Ev (fun n => R n (szr left (l.length + sTNodeS l))) := by
 refine Ev.suc.trans ?_
 simp (disch := omega) only [laws_szTNodeS.c, laws_szTNodeS.w, wrap64, Ev.iteI, decide_eq_true_eq, Ev.s1 R]
 split
 ·refine ev_arg ?_; unfold szr; split <;> omega
 ·rw [laws_szTNodeS_lp hl l 0 _ rfl (by omega) (by omega) (by omega) hy, Ev.s1 R]
  refine ev_arg ?_; unfold szr; (repeat' split) <;> omega
theorem laws_szTerm_ev {a0 : List (Int × Int × Int × Int × Int × List (Int) × List (Int))} {left : Int} (h0 : -1 ≤ left) (h1 : left ≤ 1099511627776) (h2 : a0.length ≤ 9223372036854775807) (h3 : (∀ y : tTNode, y ∈ a0 → y.2.2.2.2.2.1.length ≤ 9223372036854775807 ∧ y.2.2.2.2.2.2.length ≤ 9223372036854775807)) (R : Nat → Int → Prop) :
  Ev (fun n => laws_szTerm.c n a0 left (R n)) ↔ Ev (fun n => R n (szr left ((a0.length + sTNodeS a0)))) := by
 refine Ev.suc.trans ?_
 simp (disch := first | assumption | omega | exact szr_m1 (by assumption) | exact szr_le' (by assumption) (by assumption)) only [laws_szTerm.c, laws_szTerm.w, laws_szTNodeS_ev, wrap64, Ev.iteI, decide_eq_true_eq, Ev.s1 R]
 unfold szr; (repeat' split) <;> first | rfl | (exfalso; omega) | exact ev_arg (by omega)
theorem laws_toDecl_ev {a0 : List UInt8} {a1 : Int} (h : a0.length ≤ 1048576) (R : Nat → List UInt8 → Int → Prop) :
  Ev (fun n => laws_toDecl.c n a0 a1 (R n)) ↔ Ev (fun n => R n a0 a1) := by
 refine Ev.suc.trans ?_
 simp (disch := omega) only [laws_toDecl.c, laws_toDecl.w, Ev.s2 R]
theorem laws_toDeclS_lp {l : List tDecl} (hl : l.length ≤ 1048576) : ∀ (ys : List tDecl) (x : Int) (o : List tDecl), l.drop x.toNat = ys → 0 ≤ x → o.length = l.length → (∀ y ∈ ys, y.1.length ≤ 1048576) → ∀ (Kx : Nat → List tDecl → Prop),
  (Ev (fun n => laws_toDeclS.l3 n l x o (Kx n)) ↔ Ev (fun n => Kx n (o.take x.toNat ++ ys)))
 | [], x, o, h, h0, ho, hy, Kx => by
  have := drop_nil h h0
  refine Ev.suc.trans ?_
  simp (disch := omega) only [laws_toDeclS.l3, laws_toDeclS.l3.b, if_neg, decide_eq_true_eq, Ev.s1 Kx]
  rw [List.take_of_length_le (by omega), List.append_nil]
 | y :: ys, x, o, h, h0, ho, hy, Kx => by
  obtain ⟨e1, e2, e3⟩ := drop_cons h h0
  have hy0 := hy y List.mem_cons_self
  refine Ev.suc.trans ?_
  simp (disch := omega) only [laws_toDeclS.l3, laws_toDeclS.l3.b, if_pos, decide_eq_true_eq, Ev.s1 Kx, grd_dec2, e2, wrap64, laws_toDecl_ev]
  rw [laws_toDeclS_lp hl ys (x + 1) _ e3 (by omega) (by simpa using ho) (fun y hy' => hy y (List.mem_cons_of_mem _ hy')), Ev.s1 Kx, take_set (by omega) (by omega), List.append_assoc]
  rfl
theorem laws_toDeclS_ev {l : List tDecl} (h : (l.length + sDeclS l) ≤ 1048576) (R : Nat → List tDecl → Prop) :
  Ev (fun n => laws_toDeclS.c n l (R n)) ↔ Ev (fun n => R n l) := by
 refine Ev.suc.trans ?_
 simp (disch := omega) only [laws_toDeclS.c, laws_toDeclS.w, grd_dec2, decide_true, Bool.and_true]
 rw [laws_toDeclS_lp (by omega) l 0 _ rfl (by omega) (by simp) (fun y hy => by have := sDeclS_mem hy; omega), Ev.s1 R]
 simp
theorem laws_toUint64S_lp {l : List Int} (hl : l.length ≤ 1048576) : ∀ (ys : List Int) (x : Int) (o : List Int), l.drop x.toNat = ys → 0 ≤ x → o.length = l.length → ∀ (Kx : Nat → List Int → Prop),
  (Ev (fun n => laws_toUint64S.l3 n l x o (Kx n)) ↔ Ev (fun n => Kx n (o.take x.toNat ++ ys)))
 | [], x, o, h, h0, ho, Kx => by
  have := drop_nil h h0
  refine Ev.suc.trans ?_
  simp (disch := omega) only [laws_toUint64S.l3, laws_toUint64S.l3.b, if_neg, decide_eq_true_eq, Ev.s1 Kx]
  rw [List.take_of_length_le (by omega), List.append_nil]
 | y :: ys, x, o, h, h0, ho, Kx => by
  obtain ⟨e1, e2, e3⟩ := drop_cons h h0
  refine Ev.suc.trans ?_
  simp (disch := omega) only [laws_toUint64S.l3, laws_toUint64S.l3.b, if_pos, decide_eq_true_eq, Ev.s1 Kx, grd_dec2, e2, wrap64]
  rw [laws_toUint64S_lp hl ys (x + 1) _ e3 (by omega) (by simpa using ho), Ev.s1 Kx, take_set (by omega) (by omega), List.append_assoc]
  rfl
theorem laws_toUint64S_ev {l : List Int} (h : l.length ≤ 1048576) (R : Nat → List Int → Prop) :
  Ev (fun n => laws_toUint64S.c n l (R n)) ↔ Ev (fun n => R n l) := by
 refine Ev.suc.trans ?_
 simp (disch := omega) only [laws_toUint64S.c, laws_toUint64S.w, grd_dec2, decide_true, Bool.and_true]
 rw [laws_toUint64S_lp (by omega) l 0 _ rfl (by omega) (by simp), Ev.s1 R]
 simp
theorem laws_toBits_ev {a0 : Int} {a1 : List Int} (h : a1.length ≤ 1048576) (R : Nat → Int → List Int → Prop) :
  Ev (fun n => laws_toBits.c n a0 a1 (R n)) ↔ Ev (fun n => R n a0 a1) := by
 refine Ev.suc.trans ?_
 simp (disch := omega) only [laws_toBits.c, laws_toBits.w, laws_toUint64S_ev, Ev.s2 R]
theorem laws_toInt64S_lp {l : List Int} (hl : l.length ≤ 1048576) : ∀ (ys : List Int) (x : Int) (o : List Int), l.drop x.toNat = ys → 0 ≤ x → o.length = l.length → ∀ (Kx : Nat → List Int → Prop),
  (Ev (fun n => laws_toInt64S.l3 n l x o (Kx n)) ↔ Ev (fun n => Kx n (o.take x.toNat ++ ys)))
 | [], x, o, h, h0, ho, Kx => by
  have := drop_nil h h0
  refine Ev.suc.trans ?_
  simp (disch := omega) only [laws_toInt64S.l3, laws_toInt64S.l3.b, if_neg, decide_eq_true_eq, Ev.s1 Kx]
  rw [List.take_of_length_le (by omega), List.append_nil]
 | y :: ys, x, o, h, h0, ho, Kx => by
  obtain ⟨e1, e2, e3⟩ := drop_cons h h0
  refine Ev.suc.trans ?_
  simp (disch := omega) only [laws_toInt64S.l3, laws_toInt64S.l3.b, if_pos, decide_eq_true_eq, Ev.s1 Kx, grd_dec2, e2, wrap64]
  rw [laws_toInt64S_lp hl ys (x + 1) _ e3 (by omega) (by simpa using ho), Ev.s1 Kx, take_set (by omega) (by omega), List.append_assoc]
  rfl
theorem laws_toInt64S_ev {l : List Int} (h : l.length ≤ 1048576) (R : Nat → List Int → Prop) :
  Ev (fun n => laws_toInt64S.c n l (R n)) ↔ Ev (fun n => R n l) := by
 refine Ev.suc.trans ?_
 simp (disch := omega) only [laws_toInt64S.c, laws_toInt64S.w, grd_dec2, decide_true, Bool.and_true]
 rw [laws_toInt64S_lp (by omega) l 0 _ rfl (by omega) (by simp), Ev.s1 R]
 simp
theorem laws_toTNode_ev {a0 : Int} {a1 : Int} {a2 : Int} {a3 : Int} {a4 : Int} {a5 : List Int} {a6 : List Int} (h : a5.length + a6.length ≤ 1048576) (R : Nat → Int → Int → Int → Int → Int → List Int → List Int → Prop) :
  Ev (fun n => laws_toTNode.c n a0 a1 a2 a3 a4 a5 a6 (R n)) ↔ Ev (fun n => R n a0 a1 a2 a3 a4 a5 a6) := by
 refine Ev.suc.trans ?_
 simp (disch := omega) only [laws_toTNode.c, laws_toTNode.w, laws_toBits_ev, laws_toInt64S_ev, Ev.s7 R]
theorem laws_toTNodeS_lp {l : List tTNode} (hl : l.length ≤ 1048576) : ∀ (ys : List tTNode) (x : Int) (o : List tTNode), l.drop x.toNat = ys → 0 ≤ x → o.length = l.length → (∀ y ∈ ys, y.2.2.2.2.2.1.length + y.2.2.2.2.2.2.length ≤ 1048576) → ∀ (Kx : Nat → List tTNode → Prop),
  (Ev (fun n => laws_toTNodeS.l3 n l x o (Kx n)) ↔ Ev (fun n => Kx n (o.take x.toNat ++ ys)))
 | [], x, o, h, h0, ho, hy, Kx => by
  have := drop_nil h h0
  refine Ev.suc.trans ?_
  simp (disch := omega) only [laws_toTNodeS.l3, laws_toTNodeS.l3.b, if_neg, decide_eq_true_eq, Ev.s1 Kx]
  rw [List.take_of_length_le (by omega), List.append_nil]
 | y :: ys, x, o, h, h0, ho, hy, Kx => by
  obtain ⟨e1, e2, e3⟩ := drop_cons h h0
  have hy0 := hy y List.mem_cons_self
  refine Ev.suc.trans ?_
  simp (disch := omega) only [laws_toTNodeS.l3, laws_toTNodeS.l3.b, if_pos, decide_eq_true_eq, Ev.s1 Kx, grd_dec2, e2, wrap64, laws_toTNode_ev]
  rw [laws_toTNodeS_lp hl ys (x + 1) _ e3 (by omega) (by simpa using ho) (fun y hy' => hy y (List.mem_cons_of_mem _ hy')), Ev.s1 Kx, take_set (by omega) (by omega), List.append_assoc]
  rfl
theorem laws_toTNodeS_ev {l : List tTNode} (h : (l.length + sTNodeS l) ≤ 1048576) (R : Nat → List tTNode → Prop) :
  Ev (fun n => laws_toTNodeS.c n l (R n)) ↔ Ev (fun n => R n l) := by
 refine Ev.suc.trans ?_
 simp (disch := omega) only [laws_toTNodeS.c, laws_toTNodeS.w, grd_dec2, decide_true, Bool.and_true]
 rw [laws_toTNodeS_lp (by omega) l 0 _ rfl (by omega) (by simp) (fun y hy => by have := sTNodeS_mem hy; omega), Ev.s1 R]
 simp
theorem laws_toTerm_ev {a0 : List (Int × Int × Int × Int × Int × List (Int) × List (Int))} (h : (a0.length + sTNodeS a0) ≤ 1048576) (R : Nat → List (Int × Int × Int × Int × Int × List (Int) × List (Int)) → Prop) :
  Ev (fun n => laws_toTerm.c n a0 (R n)) ↔ Ev (fun n => R n a0) := by
 refine Ev.suc.trans ?_
 simp (disch := omega) only [laws_toTerm.c, laws_toTerm.w, laws_toTNodeS_ev, Ev.s1 R]
theorem laws_eqUint64S_lp {l l' : List Int} (hl : l.length ≤ 1099511627776) (hll : l.length = l'.length) : ∀ (ys ys' : List Int) (x : Int), l.drop x.toNat = ys → l'.drop x.toNat = ys' → 0 ≤ x → ∀ (Kx : Nat → Prop) (Kr : Nat → Bool → Prop),
  (Ev (fun n => laws_eqUint64S.l4 n l l' x (Kx n) (Kr n)) ↔ if ys = ys' then Ev Kx else Ev (fun n => Kr n false))
 | [], [], x, h, h', h0, Kx, Kr => by
  have := drop_nil h h0
  refine Ev.suc.trans ?_
  simp (disch := omega) only [laws_eqUint64S.l4, laws_eqUint64S.l4.b, if_neg, decide_eq_true_eq, Ev.s0 Kx, if_true]
 | [], y' :: ys', x, h, h', h0, Kx, Kr => by
  have := drop_nil h h0; have := (drop_cons h' h0).1; omega
 | y :: ys, [], x, h, h', h0, Kx, Kr => by
  have := drop_nil h' h0; have := (drop_cons h h0).1; omega
 | y :: ys, y' :: ys', x, h, h', h0, Kx, Kr => by
  obtain ⟨e1, e2, e3⟩ := drop_cons h h0
  obtain ⟨_, f2, f3⟩ := drop_cons h' h0
  refine Ev.suc.trans ?_
  simp (disch := first | assumption | exact hy0.1 | exact hy0.2 | exact hy0.2.1 | exact hy0.2.2 | exact hy0.2.2.1 | exact hy0.2.2.2 | omega) only [laws_eqUint64S.l4, laws_eqUint64S.l4.b, if_pos, decide_eq_true_eq, Ev.s0 Kx, Ev.s1 Kr, grd_dec2, e2, f2, wrap64, Ev.iteI, Bool.not_eq_true', decide_eq_false_iff_not]
  rw [laws_eqUint64S_lp hl hll ys ys' (x + 1) e3 f3 (by omega), Ev.s0 Kx, Ev.s1 Kr]
  simp only [List.cons.injEq, Prod.ext_iff]
  (repeat' split) <;> first | rfl | (exfalso; simp_all; done)
theorem laws_eqUint64S_ev {l l' : List Int} (hl : l.length ≤ 1099511627776) (R : Nat → Bool → Prop) :
  Ev (fun n => laws_eqUint64S.c n l l' (R n)) ↔ Ev (fun n => R n (decide (l = l'))) := by
 refine Ev.suc.trans ?_
 simp (disch := omega) only [laws_eqUint64S.c, laws_eqUint64S.w, Ev.iteI, Bool.not_eq_true', decide_eq_false_iff_not, Ev.s1 R]
 split
 ·rw [decide_eq_false]; intro e; subst e; omega
 ·rw [laws_eqUint64S_lp hl (by omega) l l' 0 rfl rfl (by omega), Ev.s1 R, Ev.s1 R]
  split
  ·rw [decide_eq_true ‹_›]
  ·rw [decide_eq_false ‹_›]
theorem laws_eqBits_ev {a0 b0 : Int} {a1 b1 : List Int} (h0 : a1.length ≤ 1099511627776) (R : Nat → Bool → Prop) :
  Ev (fun n => laws_eqBits.c n a0 a1 b0 b1 (R n)) ↔ Ev (fun n => R n (decide (a0 = b0 ∧ a1 = b1))) := by
 refine Ev.suc.trans ?_
 simp (disch := first | assumption | omega) only [laws_eqBits.c, laws_eqBits.w, laws_eqUint64S_ev, Ev.iteI, Bool.not_eq_true', decide_eq_false_iff_not, beq_eq_false_iff_ne, ne_eq, Ev.s1 R]
 (repeat' split) <;> first | (rw [decide_eq_false]; simp_all; done) | (rw [decide_eq_true]; simp_all; done)
theorem laws_eqDecl_ev {a0 b0 : List UInt8} {a1 b1 : Int} (R : Nat → Bool → Prop) :
  Ev (fun n => laws_eqDecl.c n a0 a1 b0 b1 (R n)) ↔ Ev (fun n => R n (decide (a0 = b0 ∧ a1 = b1))) := by
 refine Ev.suc.trans ?_
 simp (disch := first | assumption | omega) only [laws_eqDecl.c, laws_eqDecl.w, Ev.iteI, Bool.not_eq_true', decide_eq_false_iff_not, beq_eq_false_iff_ne, ne_eq, Ev.s1 R]
 (repeat' split) <;> first | (rw [decide_eq_false]; simp_all; done) | (rw [decide_eq_true]; simp_all; done)
theorem laws_eqDeclS_lp {l l' : List tDecl} (hl : l.length ≤ 1099511627776) (hll : l.length = l'.length) : ∀ (ys ys' : List tDecl) (x : Int), l.drop x.toNat = ys → l'.drop x.toNat = ys' → 0 ≤ x → ∀ (Kx : Nat → Prop) (Kr : Nat → Bool → Prop),
  (Ev (fun n => laws_eqDeclS.l4 n l l' x (Kx n) (Kr n)) ↔ if ys = ys' then Ev Kx else Ev (fun n => Kr n false))
 | [], [], x, h, h', h0, Kx, Kr => by
  have := drop_nil h h0
  refine Ev.suc.trans ?_
  simp (disch := omega) only [laws_eqDeclS.l4, laws_eqDeclS.l4.b, if_neg, decide_eq_true_eq, Ev.s0 Kx, if_true]
 | [], y' :: ys', x, h, h', h0, Kx, Kr => by
  have := drop_nil h h0; have := (drop_cons h' h0).1; omega
 | y :: ys, [], x, h, h', h0, Kx, Kr => by
  have := drop_nil h' h0; have := (drop_cons h h0).1; omega
 | y :: ys, y' :: ys', x, h, h', h0, Kx, Kr => by
  obtain ⟨e1, e2, e3⟩ := drop_cons h h0
  obtain ⟨_, f2, f3⟩ := drop_cons h' h0
  refine Ev.suc.trans ?_
  simp (disch := first | assumption | exact hy0.1 | exact hy0.2 | exact hy0.2.1 | exact hy0.2.2 | exact hy0.2.2.1 | exact hy0.2.2.2 | omega) only [laws_eqDeclS.l4, laws_eqDeclS.l4.b, if_pos, decide_eq_true_eq, Ev.s0 Kx, Ev.s1 Kr, grd_dec2, e2, f2, wrap64, laws_eqDecl_ev, Ev.iteI, Bool.not_eq_true', decide_eq_false_iff_not]
  rw [laws_eqDeclS_lp hl hll ys ys' (x + 1) e3 f3 (by omega), Ev.s0 Kx, Ev.s1 Kr]
  simp only [List.cons.injEq, Prod.ext_iff]
  (repeat' split) <;> first | rfl | (exfalso; simp_all; done)
theorem laws_eqDeclS_ev {l l' : List tDecl} (hl : l.length ≤ 1099511627776) (R : Nat → Bool → Prop) :
  Ev (fun n => laws_eqDeclS.c n l l' (R n)) ↔ Ev (fun n => R n (decide (l = l'))) := by
 refine Ev.suc.trans ?_
 simp (disch := omega) only [laws_eqDeclS.c, laws_eqDeclS.w, Ev.iteI, Bool.not_eq_true', decide_eq_false_iff_not, Ev.s1 R]
 split
 ·rw [decide_eq_false]; intro e; subst e; omega
 ·rw [laws_eqDeclS_lp hl (by omega) l l' 0 rfl rfl (by omega), Ev.s1 R, Ev.s1 R]
  split
  ·rw [decide_eq_true ‹_›]
  ·rw [decide_eq_false ‹_›]
theorem laws_eqInt64S_lp {l l' : List Int} (hl : l.length ≤ 1099511627776) (hll : l.length = l'.length) : ∀ (ys ys' : List Int) (x : Int), l.drop x.toNat = ys → l'.drop x.toNat = ys' → 0 ≤ x → ∀ (Kx : Nat → Prop) (Kr : Nat → Bool → Prop),
  (Ev (fun n => laws_eqInt64S.l4 n l l' x (Kx n) (Kr n)) ↔ if ys = ys' then Ev Kx else Ev (fun n => Kr n false))
 | [], [], x, h, h', h0, Kx, Kr => by
  have := drop_nil h h0
  refine Ev.suc.trans ?_
  simp (disch := omega) only [laws_eqInt64S.l4, laws_eqInt64S.l4.b, if_neg, decide_eq_true_eq, Ev.s0 Kx, if_true]
 | [], y' :: ys', x, h, h', h0, Kx, Kr => by
  have := drop_nil h h0; have := (drop_cons h' h0).1; omega
 | y :: ys, [], x, h, h', h0, Kx, Kr => by
  have := drop_nil h' h0; have := (drop_cons h h0).1; omega
 | y :: ys, y' :: ys', x, h, h', h0, Kx, Kr => by
  obtain ⟨e1, e2, e3⟩ := drop_cons h h0
  obtain ⟨_, f2, f3⟩ := drop_cons h' h0
  refine Ev.suc.trans ?_
  simp (disch := first | assumption | exact hy0.1 | exact hy0.2 | exact hy0.2.1 | exact hy0.2.2 | exact hy0.2.2.1 | exact hy0.2.2.2 | omega) only [laws_eqInt64S.l4, laws_eqInt64S.l4.b, if_pos, decide_eq_true_eq, Ev.s0 Kx, Ev.s1 Kr, grd_dec2, e2, f2, wrap64, Ev.iteI, Bool.not_eq_true', decide_eq_false_iff_not]
  rw [laws_eqInt64S_lp hl hll ys ys' (x + 1) e3 f3 (by omega), Ev.s0 Kx, Ev.s1 Kr]
  simp only [List.cons.injEq, Prod.ext_iff]
  (repeat' split) <;> first | rfl | (exfalso; simp_all; done)
theorem laws_eqInt64S_ev {l l' : List Int} (hl : l.length ≤ 1099511627776) (R : Nat → Bool → Prop) :
  Ev (fun n => laws_eqInt64S.c n l l' (R n)) ↔ Ev (fun n => R n (decide (l = l'))) := by
 refine Ev.suc.trans ?_
 simp (disch := omega) only [laws_eqInt64S.c, laws_eqInt64S.w, Ev.iteI, Bool.not_eq_true', decide_eq_false_iff_not, Ev.s1 R]
 split
 ·rw [decide_eq_false]; intro e; subst e; omega
 ·rw [laws_eqInt64S_lp hl (by omega) l l' 0 rfl rfl (by omega), Ev.s1 R, Ev.s1 R]
  split
  ·rw [decide_eq_true ‹_›]
  ·rw [decide_eq_false ‹_›]
theorem laws_eqTNode_ev {a0 b0 : Int} {a1 b1 : Int} {a2 b2 : Int} {a3 b3 : Int} {a4 b4 : Int} {a5 b5 : List Int} {a6 b6 : List Int} (h0 : a5.length ≤ 1099511627776) (h1 : a6.length ≤ 1099511627776) (R : Nat → Bool → Prop) :
  Ev (fun n => laws_eqTNode.c n a0 a1 a2 a3 a4 a5 a6 b0 b1 b2 b3 b4 b5 b6 (R n)) ↔ Ev (fun n => R n (decide (a0 = b0 ∧ a1 = b1 ∧ a2 = b2 ∧ a3 = b3 ∧ a4 = b4 ∧ a5 = b5 ∧ a6 = b6))) := by
 refine Ev.suc.trans ?_
 simp (disch := first | assumption | omega) only [laws_eqTNode.c, laws_eqTNode.w, laws_eqBits_ev, laws_eqInt64S_ev, Ev.iteI, Bool.not_eq_true', decide_eq_false_iff_not, beq_eq_false_iff_ne, ne_eq, Ev.s1 R]
 (repeat' split) <;> first | (rw [decide_eq_false]; simp_all; done) | (rw [decide_eq_true]; simp_all; done)
theorem laws_eqTNodeS_lp {l l' : List tTNode} (hl : l.length ≤ 1099511627776) (hll : l.length = l'.length) : ∀ (ys ys' : List tTNode) (x : Int), l.drop x.toNat = ys → l'.drop x.toNat = ys' → 0 ≤ x → (∀ y ∈ ys, y.2.2.2.2.2.1.length ≤ 1099511627776 ∧ y.2.2.2.2.2.2.length ≤ 1099511627776) → ∀ (Kx : Nat → Prop) (Kr : Nat → Bool → Prop),
  (Ev (fun n => laws_eqTNodeS.l4 n l l' x (Kx n) (Kr n)) ↔ if ys = ys' then Ev Kx else Ev (fun n => Kr n false))
 | [], [], x, h, h', h0, hy, Kx, Kr => by
  have := drop_nil h h0
  refine Ev.suc.trans ?_
  simp (disch := omega) only [laws_eqTNodeS.l4, laws_eqTNodeS.l4.b, if_neg, decide_eq_true_eq, Ev.s0 Kx, if_true]
 | [], y' :: ys', x, h, h', h0, hy, Kx, Kr => by
  have := drop_nil h h0; have := (drop_cons h' h0).1; omega
 | y :: ys, [], x, h, h', h0, hy, Kx, Kr => by
  have := drop_nil h' h0; have := (drop_cons h h0).1; omega
 | y :: ys, y' :: ys', x, h, h', h0, hy, Kx, Kr => by
  obtain ⟨e1, e2, e3⟩ := drop_cons h h0
  obtain ⟨_, f2, f3⟩ := drop_cons h' h0
  have hy0 := hy y List.mem_cons_self
  refine Ev.suc.trans ?_
  simp (disch := first | assumption | exact hy0.1 | exact hy0.2 | exact hy0.2.1 | exact hy0.2.2 | exact hy0.2.2.1 | exact hy0.2.2.2 | omega) only [laws_eqTNodeS.l4, laws_eqTNodeS.l4.b, if_pos, decide_eq_true_eq, Ev.s0 Kx, Ev.s1 Kr, grd_dec2, e2, f2, wrap64, laws_eqTNode_ev, Ev.iteI, Bool.not_eq_true', decide_eq_false_iff_not]
  rw [laws_eqTNodeS_lp hl hll ys ys' (x + 1) e3 f3 (by omega) (fun y hy' => hy y (List.mem_cons_of_mem _ hy')), Ev.s0 Kx, Ev.s1 Kr]
  simp only [List.cons.injEq, Prod.ext_iff]
  (repeat' split) <;> first | rfl | (exfalso; simp_all; done)
theorem laws_eqTNodeS_ev {l l' : List tTNode} (hl : l.length ≤ 1099511627776) (hy : ∀ y ∈ l, y.2.2.2.2.2.1.length ≤ 1099511627776 ∧ y.2.2.2.2.2.2.length ≤ 1099511627776) (R : Nat → Bool → Prop) :
  Ev (fun n => laws_eqTNodeS.c n l l' (R n)) ↔ Ev (fun n => R n (decide (l = l'))) := by
 refine Ev.suc.trans ?_
 simp (disch := omega) only [laws_eqTNodeS.c, laws_eqTNodeS.w, Ev.iteI, Bool.not_eq_true', decide_eq_false_iff_not, Ev.s1 R]
 split
 ·rw [decide_eq_false]; intro e; subst e; omega
 ·rw [laws_eqTNodeS_lp hl (by omega) l l' 0 rfl rfl (by omega) hy, Ev.s1 R, Ev.s1 R]
  split
  ·rw [decide_eq_true ‹_›]
  ·rw [decide_eq_false ‹_›]
theorem eqTNodeS_of {l : List tTNode} (h : (l.length + sTNodeS l) ≤ 1099511627776) : ∀ y : tTNode, y ∈ l → y.2.2.2.2.2.1.length ≤ 1099511627776 ∧ y.2.2.2.2.2.2.length ≤ 1099511627776 := by
 intro y hy
 have := sTNodeS_mem hy
 exact ⟨(by omega), (by omega)⟩
theorem laws_eqTerm_ev {a0 b0 : List (Int × Int × Int × Int × Int × List (Int) × List (Int))} (h0 : a0.length ≤ 1099511627776) (h1 : (∀ y : tTNode, y ∈ a0 → y.2.2.2.2.2.1.length ≤ 1099511627776 ∧ y.2.2.2.2.2.2.length ≤ 1099511627776)) (R : Nat → Bool → Prop) :
  Ev (fun n => laws_eqTerm.c n a0 b0 (R n)) ↔ Ev (fun n => R n (decide (a0 = b0))) := by
 refine Ev.suc.trans ?_
 simp (disch := first | assumption | omega) only [laws_eqTerm.c, laws_eqTerm.w, laws_eqTNodeS_ev, Ev.iteI, Bool.not_eq_true', decide_eq_false_iff_not, beq_eq_false_iff_ne, ne_eq, Ev.s1 R]
 (repeat' split) <;> first | (rw [decide_eq_false]; simp_all; done) | (rw [decide_eq_true]; simp_all; done)
def mDeclS : List tDecl → Int → List tDecl
 | [], _ => []
 | y :: r, k => (mText k, k + 1) :: mDeclS r (k + 1 + 1)
def cDeclS : List tDecl → Nat
 | [] => 0
 | y :: r => (2) + cDeclS r
theorem laws_markDeclS_lp : ∀ (ys l : List tDecl) (k x : Int), l.drop x.toNat = ys → 0 ≤ x → l.length ≤ 1099511627776 → 0 < k → k + (cDeclS ys : Int) ≤ 4611686018427387904 → ∀ (Kx : Nat → Int → List tDecl → Prop),
  (Ev (fun n => laws_markDeclS.l2 n k x l (Kx n)) ↔ Ev (fun n => Kx n (k + (cDeclS ys : Int)) (l.take x.toNat ++ mDeclS ys k)))
 | [], l, k, x, h, h0, hl, hk, hb, Kx => by
  have := drop_nil h h0
  refine Ev.suc.trans ?_
  simp (disch := omega) only [laws_markDeclS.l2, laws_markDeclS.l2.b, if_neg, decide_eq_true_eq, Ev.s2 Kx]
  rw [List.take_of_length_le (by omega), mDeclS, List.append_nil]
  refine ev_arg2 ?_; simp [cDeclS]
 | y :: ys, l, k, x, h, h0, hl, hk, hb, Kx => by
  obtain ⟨e1, e2, e3⟩ := drop_cons h h0
  simp only [List.length_cons, cDeclS] at hb
  refine Ev.suc.trans ?_
  simp (disch := first | assumption | exact hy0.1 | exact hy0.2 | exact hy0.2.1 | exact hy0.2.2 | exact hy0.2.2.1 | exact hy0.2.2.2 | omega) only [laws_markDeclS.l2, laws_markDeclS.l2.b, if_pos, decide_eq_true_eq, Ev.s2 Kx, grd_dec2, wrap64, wrapU, rd_set, List.length_set, List.set_set, e2, markText_ev]
  rw [laws_markDeclS_lp ys _ _ (x + 1) (drop_set e3 (by omega)) (by omega) (by simpa using hl) (by omega) (by omega), Ev.s2 Kx, take_set (by omega) (by omega), List.append_assoc, mDeclS]
  simp only [List.length_cons, cDeclS, List.singleton_append]
  exact ev_arg3 (by omega) (by congr 2 <;> first | rfl | omega | (congr 1; omega) | skip)
theorem laws_markDeclS_ev {l : List tDecl} {k : Int} (hl : l.length ≤ 1099511627776) (hk : 0 < k) (hb : k + (cDeclS l : Int) ≤ 4611686018427387904) (R : Nat → Int → List tDecl → Prop) :
  Ev (fun n => laws_markDeclS.c n l k (R n)) ↔ Ev (fun n => R n (k + (cDeclS l : Int)) (mDeclS l k)) := by
 refine Ev.suc.trans ?_
 simp only [laws_markDeclS.c, laws_markDeclS.w]
 rw [laws_markDeclS_lp l l k 0 rfl (by omega) hl hk hb, Ev.s2 R]
 rfl
theorem cDeclS_le : ∀ {l : List tDecl}, cDeclS l ≤ 8 * (l.length + sDeclS l)
 | [] => by simp [cDeclS]
 | y :: r => by
  have := cDeclS_le (l := r)
  simp only [cDeclS, sDeclS, List.length_cons]; omega
def mUint64S : List Int → Int → List Int
 | [], _ => []
 | y :: r, k => (k) :: mUint64S r (k + 1)
theorem laws_markUint64S_lp : ∀ (ys l : List Int) (k x : Int), l.drop x.toNat = ys → 0 ≤ x → l.length ≤ 1099511627776 → 0 < k → k + (ys.length : Int) ≤ 4611686018427387904 → ∀ (Kx : Nat → Int → List Int → Prop),
  (Ev (fun n => laws_markUint64S.l2 n k x l (Kx n)) ↔ Ev (fun n => Kx n (k + (ys.length : Int)) (l.take x.toNat ++ mUint64S ys k)))
 | [], l, k, x, h, h0, hl, hk, hb, Kx => by
  have := drop_nil h h0
  refine Ev.suc.trans ?_
  simp (disch := omega) only [laws_markUint64S.l2, laws_markUint64S.l2.b, if_neg, decide_eq_true_eq, Ev.s2 Kx]
  rw [List.take_of_length_le (by omega), mUint64S, List.append_nil]
  refine ev_arg2 ?_; simp
 | y :: ys, l, k, x, h, h0, hl, hk, hb, Kx => by
  obtain ⟨e1, e2, e3⟩ := drop_cons h h0
  simp only [List.length_cons] at hb
  refine Ev.suc.trans ?_
  simp (disch := first | assumption | exact hy0.1 | exact hy0.2 | exact hy0.2.1 | exact hy0.2.2 | exact hy0.2.2.1 | exact hy0.2.2.2 | omega) only [laws_markUint64S.l2, laws_markUint64S.l2.b, if_pos, decide_eq_true_eq, Ev.s2 Kx, grd_dec2, wrap64, wrapU, rd_set, List.length_set, List.set_set, e2]
  rw [laws_markUint64S_lp ys _ _ (x + 1) (drop_set e3 (by omega)) (by omega) (by simpa using hl) (by omega) (by omega), Ev.s2 Kx, take_set (by omega) (by omega), List.append_assoc, mUint64S]
  simp only [List.length_cons, List.singleton_append]
  exact ev_arg3 (by omega) (by congr 2 <;> first | rfl | omega | (congr 1; omega) | skip)
theorem laws_markUint64S_ev {l : List Int} {k : Int} (hl : l.length ≤ 1099511627776) (hk : 0 < k) (hb : k + (l.length : Int) ≤ 4611686018427387904) (R : Nat → Int → List Int → Prop) :
  Ev (fun n => laws_markUint64S.c n l k (R n)) ↔ Ev (fun n => R n (k + (l.length : Int)) (mUint64S l k)) := by
 refine Ev.suc.trans ?_
 simp only [laws_markUint64S.c, laws_markUint64S.w]
 rw [laws_markUint64S_lp l l k 0 rfl (by omega) hl hk hb, Ev.s2 R]
 rfl
def mInt64S : List Int → Int → List Int
 | [], _ => []
 | y :: r, k => (k) :: mInt64S r (k + 1)
theorem laws_markInt64S_lp : ∀ (ys l : List Int) (k x : Int), l.drop x.toNat = ys → 0 ≤ x → l.length ≤ 1099511627776 → 0 < k → k + (ys.length : Int) ≤ 4611686018427387904 → ∀ (Kx : Nat → Int → List Int → Prop),
  (Ev (fun n => laws_markInt64S.l2 n k x l (Kx n)) ↔ Ev (fun n => Kx n (k + (ys.length : Int)) (l.take x.toNat ++ mInt64S ys k)))
 | [], l, k, x, h, h0, hl, hk, hb, Kx => by
  have := drop_nil h h0
  refine Ev.suc.trans ?_
  simp (disch := omega) only [laws_markInt64S.l2, laws_markInt64S.l2.b, if_neg, decide_eq_true_eq, Ev.s2 Kx]
  rw [List.take_of_length_le (by omega), mInt64S, List.append_nil]
  refine ev_arg2 ?_; simp
 | y :: ys, l, k, x, h, h0, hl, hk, hb, Kx => by
  obtain ⟨e1, e2, e3⟩ := drop_cons h h0
  simp only [List.length_cons] at hb
  refine Ev.suc.trans ?_
  simp (disch := first | assumption | exact hy0.1 | exact hy0.2 | exact hy0.2.1 | exact hy0.2.2 | exact hy0.2.2.1 | exact hy0.2.2.2 | omega) only [laws_markInt64S.l2, laws_markInt64S.l2.b, if_pos, decide_eq_true_eq, Ev.s2 Kx, grd_dec2, wrap64, wrapU, rd_set, List.length_set, List.set_set, e2]
  rw [laws_markInt64S_lp ys _ _ (x + 1) (drop_set e3 (by omega)) (by omega) (by simpa using hl) (by omega) (by omega), Ev.s2 Kx, take_set (by omega) (by omega), List.append_assoc, mInt64S]
  simp only [List.length_cons, List.singleton_append]
  exact ev_arg3 (by omega) (by congr 2 <;> first | rfl | omega | (congr 1; omega) | skip)
theorem laws_markInt64S_ev {l : List Int} {k : Int} (hl : l.length ≤ 1099511627776) (hk : 0 < k) (hb : k + (l.length : Int) ≤ 4611686018427387904) (R : Nat → Int → List Int → Prop) :
  Ev (fun n => laws_markInt64S.c n l k (R n)) ↔ Ev (fun n => R n (k + (l.length : Int)) (mInt64S l k)) := by
 refine Ev.suc.trans ?_
 simp only [laws_markInt64S.c, laws_markInt64S.w]
 rw [laws_markInt64S_lp l l k 0 rfl (by omega) hl hk hb, Ev.s2 R]
 rfl
theorem mInt64S_len : ∀ {l : List Int} {k : Int}, (mInt64S l k).length = l.length
 | [], _ => rfl
 | y :: l, k => by simp [mInt64S, mInt64S_len]
def mTNodeS : List tTNode → Int → List tTNode
 | [], _ => []
 | y :: r, k => (k, k + 1, k + 1 + 1, k + 1 + 1 + 1, k + 1 + 1 + 1 + 1, mUint64S y.2.2.2.2.2.1 (k + 1 + 1 + 1 + 1 + 1), mInt64S y.2.2.2.2.2.2 (k + 1 + 1 + 1 + 1 + 1 + ((y.2.2.2.2.2.1.length : Nat) : Int))) :: mTNodeS r (k + 1 + 1 + 1 + 1 + 1 + ((y.2.2.2.2.2.1.length : Nat) : Int) + ((y.2.2.2.2.2.2.length : Nat) : Int))
def cTNodeS : List tTNode → Nat
 | [] => 0
 | y :: r => (5 + y.2.2.2.2.2.1.length + y.2.2.2.2.2.2.length) + cTNodeS r
theorem laws_markTNodeS_lp : ∀ (ys l : List tTNode) (k x : Int), l.drop x.toNat = ys → 0 ≤ x → l.length ≤ 1099511627776 → 0 < k → k + (cTNodeS ys : Int) ≤ 4611686018427387904 → (∀ y ∈ ys, y.2.2.2.2.2.1.length ≤ 1099511627776 ∧ y.2.2.2.2.2.2.length ≤ 1099511627776) → ∀ (Kx : Nat → Int → List tTNode → Prop),
  (Ev (fun n => laws_markTNodeS.l2 n k x l (Kx n)) ↔ Ev (fun n => Kx n (k + (cTNodeS ys : Int)) (l.take x.toNat ++ mTNodeS ys k)))
 | [], l, k, x, h, h0, hl, hk, hb, hy, Kx => by
  have := drop_nil h h0
  refine Ev.suc.trans ?_
  simp (disch := omega) only [laws_markTNodeS.l2, laws_markTNodeS.l2.b, if_neg, decide_eq_true_eq, Ev.s2 Kx]
  rw [List.take_of_length_le (by omega), mTNodeS, List.append_nil]
  refine ev_arg2 ?_; simp [cTNodeS]
 | y :: ys, l, k, x, h, h0, hl, hk, hb, hy, Kx => by
  obtain ⟨e1, e2, e3⟩ := drop_cons h h0
  have hy0 := hy y List.mem_cons_self
  simp only [List.length_cons, cTNodeS] at hb
  refine Ev.suc.trans ?_
  simp (disch := first | assumption | exact hy0.1 | exact hy0.2 | exact hy0.2.1 | exact hy0.2.2 | exact hy0.2.2.1 | exact hy0.2.2.2 | omega) only [laws_markTNodeS.l2, laws_markTNodeS.l2.b, if_pos, decide_eq_true_eq, Ev.s2 Kx, grd_dec2, wrap64, wrapU, rd_set, List.length_set, List.set_set, e2, laws_markInt64S_ev, laws_markUint64S_ev]
  rw [laws_markTNodeS_lp ys _ _ (x + 1) (drop_set e3 (by omega)) (by omega) (by simpa using hl) (by omega) (by omega) (fun y hy' => hy y (List.mem_cons_of_mem _ hy')), Ev.s2 Kx, take_set (by omega) (by omega), List.append_assoc, mTNodeS]
  simp only [List.length_cons, cTNodeS, List.singleton_append]
  exact ev_arg3 (by omega) (by congr 2 <;> first | rfl | omega | (congr 1; omega) | skip)
theorem laws_markTNodeS_ev {l : List tTNode} {k : Int} (hl : l.length ≤ 1099511627776) (hk : 0 < k) (hb : k + (cTNodeS l : Int) ≤ 4611686018427387904) (hy : ∀ y ∈ l, y.2.2.2.2.2.1.length ≤ 1099511627776 ∧ y.2.2.2.2.2.2.length ≤ 1099511627776) (R : Nat → Int → List tTNode → Prop) :
  Ev (fun n => laws_markTNodeS.c n l k (R n)) ↔ Ev (fun n => R n (k + (cTNodeS l : Int)) (mTNodeS l k)) := by
 refine Ev.suc.trans ?_
 simp only [laws_markTNodeS.c, laws_markTNodeS.w]
 rw [laws_markTNodeS_lp l l k 0 rfl (by omega) hl hk hb hy, Ev.s2 R]
 rfl
theorem markTNodeS_of {l : List tTNode} (h : (l.length + sTNodeS l) ≤ 1099511627776) : ∀ y : tTNode, y ∈ l → y.2.2.2.2.2.1.length ≤ 1099511627776 ∧ y.2.2.2.2.2.2.length ≤ 1099511627776 := by
 intro y hy
 have := sTNodeS_mem hy
 exact ⟨(by omega), (by omega)⟩
theorem cTNodeS_le : ∀ {l : List tTNode}, cTNodeS l ≤ 8 * (l.length + sTNodeS l)
 | [] => by simp [cTNodeS]
 | y :: r => by
  have := cTNodeS_le (l := r)
  simp only [cTNodeS, sTNodeS, List.length_cons]; omega
theorem laws_markTerm_ev {a0 : List (Int × Int × Int × Int × Int × List (Int) × List (Int))} {k : Int} (hk : 0 < k) (hb : k + (((cTNodeS a0) : Nat) : Int) ≤ 4611686018427387904) (g0 : a0.length ≤ 1099511627776) (g1 : (∀ y : tTNode, y ∈ a0 → y.2.2.2.2.2.1.length ≤ 1099511627776 ∧ y.2.2.2.2.2.2.length ≤ 1099511627776)) (R : Nat → Int → List (Int × Int × Int × Int × Int × List (Int) × List (Int)) → Prop) :
  Ev (fun n => laws_markTerm.c n a0 k (R n)) ↔ Ev (fun n => R n (k + (((cTNodeS a0) : Nat) : Int)) (mTNodeS a0 k)) := by
 refine Ev.suc.trans ?_
 simp (disch := first | assumption | omega) only [laws_markTerm.c, laws_markTerm.w, laws_markTNodeS_ev, Ev.s2 R]
theorem laws_markInt64S_1_lp : ∀ (ys l : List Int) (k x : Int), l.drop x.toNat = ys → 0 ≤ x → l.length ≤ 1099511627776 → 0 < k → k + (ys.length : Int) ≤ 4611686018427387904 → ∀ (Kx : Nat → Int → List Int → Prop),
  (Ev (fun n => laws_markInt64S_1.l2 n k x l (Kx n)) ↔ Ev (fun n => Kx n (k + (ys.length : Int)) (l.take x.toNat ++ mInt64S ys k)))
 | [], l, k, x, h, h0, hl, hk, hb, Kx => by
  have := drop_nil h h0
  refine Ev.suc.trans ?_
  simp (disch := omega) only [laws_markInt64S_1.l2, laws_markInt64S_1.l2.b, if_neg, decide_eq_true_eq, Ev.s2 Kx]
  rw [List.take_of_length_le (by omega), mInt64S, List.append_nil]
  refine ev_arg2 ?_; simp
 | y :: ys, l, k, x, h, h0, hl, hk, hb, Kx => by
  obtain ⟨e1, e2, e3⟩ := drop_cons h h0
  simp only [List.length_cons] at hb
  refine Ev.suc.trans ?_
  simp (disch := first | assumption | exact hy0.1 | exact hy0.2 | exact hy0.2.1 | exact hy0.2.2 | exact hy0.2.2.1 | exact hy0.2.2.2 | omega) only [laws_markInt64S_1.l2, laws_markInt64S_1.l2.b, if_pos, decide_eq_true_eq, Ev.s2 Kx, grd_dec2, wrap64, wrapU, rd_set, List.length_set, List.set_set, e2]
  rw [laws_markInt64S_1_lp ys _ _ (x + 1) (drop_set e3 (by omega)) (by omega) (by simpa using hl) (by omega) (by omega), Ev.s2 Kx, take_set (by omega) (by omega), List.append_assoc, mInt64S]
  simp only [List.length_cons, List.singleton_append]
  exact ev_arg3 (by omega) (by congr 2 <;> first | rfl | omega | (congr 1; omega) | skip)
theorem laws_markInt64S_1_ev {l : List Int} {k : Int} (hl : l.length ≤ 1099511627776) (hk : 0 < k) (hb : k + (l.length : Int) ≤ 4611686018427387904) (R : Nat → Int → List Int → Prop) :
  Ev (fun n => laws_markInt64S_1.c n l k (R n)) ↔ Ev (fun n => R n (k + (l.length : Int)) (mInt64S l k)) := by
 refine Ev.suc.trans ?_
 simp only [laws_markInt64S_1.c, laws_markInt64S_1.w]
 rw [laws_markInt64S_1_lp l l k 0 rfl (by omega) hl hk hb, Ev.s2 R]
 rfl
theorem laws_heldInt64S_lp {l : List Int} (hl : l.length ≤ 1099511627776) : ∀ (ys : List Int) (k x : Int), l.drop x.toNat = mInt64S ys k → 0 ≤ x → 0 < k → k + (ys.length : Int) ≤ 4611686018427387904 → ∀ (Kx Kr : Nat → Int → Prop),
  (Ev (fun n => laws_heldInt64S.l2 n l k x (Kx n) (Kr n)) ↔ Ev (fun n => Kx n (k + (ys.length : Int))))
 | [], k, x, h, h0, hk, hb, Kx, Kr => by
  have := drop_nil h h0
  refine Ev.suc.trans ?_
  simp (disch := omega) only [laws_heldInt64S.l2, laws_heldInt64S.l2.b, if_neg, decide_eq_true_eq, Ev.s1 Kx]
  refine ev_arg ?_; simp
 | y :: ys, k, x, h, h0, hk, hb, Kx, Kr => by
  obtain ⟨e1, e2, e3⟩ := drop_cons h h0
  simp only [List.length_cons] at hb
  refine Ev.suc.trans ?_
  simp (disch := first | assumption | exact hy0.1 | exact hy0.2 | exact hy0.2.1 | exact hy0.2.2 | exact hy0.2.2.1 | exact hy0.2.2.2 | omega) only [laws_heldInt64S.l2, laws_heldInt64S.l2.b, if_pos, if_neg, decide_eq_true_eq, Bool.not_eq_true', decide_eq_false_iff_not, not_true, if_false, Ev.s1 Kx, grd_dec2, wrap64, wrapU, e2, beq_self_eq_true, Bool.true_eq_false, Bool.not_true, Bool.false_eq_true, decide_true, decide_not, Ev.iteI]
  rw [laws_heldInt64S_lp hl ys _ (x + 1) (by first | exact e3 | (rw [e3]; congr 1 <;> omega)) (by omega) (by omega) (by omega), Ev.s1 Kx]
  refine ev_arg ?_; simp only [List.length_cons]; try omega
theorem laws_heldInt64S_ev {l : List Int} {k : Int} (hl : l.length ≤ 1099511627776) (hk : 0 < k) (hb : k + (l.length : Int) ≤ 4611686018427387904) (R : Nat → Int → Prop) :
  Ev (fun n => laws_heldInt64S.c n (mInt64S l k) k (R n)) ↔ Ev (fun n => R n (k + (l.length : Int))) := by
 refine Ev.suc.trans ?_
 simp only [laws_heldInt64S.c, laws_heldInt64S.w]
 rw [laws_heldInt64S_lp (by rw [mInt64S_len]; exact hl) l k 0 rfl (by omega) hk hb, Ev.s1 R]
end Go.Vsi
end

section
set_option linter.unusedVariables false
set_option linter.unusedSimpArgs false
set_option synthInstance.maxSize 4096
namespace Go.Vsi
theorem wd_of {l : List Int} (h : Gd (.sl 0 (.int .u64)) l) : Wd l := fun x hx => ⟨(h.2 x hx).1, (h.2 x hx).2⟩
theorem term_wd {t : List tTNode} (h : Gd (.sl 0 yTNode) t) (hz : t.length + sTNodeS t ≤ 1099511627776) : ∀ x : tTNode, x ∈ t → Wd x.2.2.2.2.2.1 ∧ x.2.2.2.2.2.2.length ≤ 1099511627776 :=
 fun x hx => ⟨wd_of (h.2 x hx).2.2.2.2.2.1, by have := sTNodeS_mem hx; omega⟩
end Go.Vsi
end

section
set_option linter.unusedVariables false
set_option linter.unusedSimpArgs false
set_option synthInstance.maxSize 4096
namespace Go.Vsi
theorem rules_q18 {d : List tDecl} {t : List tTNode} {place : Int} (gt : Gd (.sl 0 yTNode) t) (z : d.length + sDeclS d + (t.length + sTNodeS t) ≤ 1048576) (K : Nat → Bool → Prop) :
  Ev (fun n => laws_FnExactRules.q18 n d place (rulesOf d t place) d t (rulesOf d t place) t (K n)) ↔ Ev (fun n => K n true) := by
 have hr := rulesOf_len (d := d) (t := t) (place := place)
 have t1 := fun R => laws_toDeclS_ev (l := d) (by omega) R
 have t3 := fun R => laws_toTerm_ev (a0 := t) (by omega) R
 have s2 := fun R => rulesOf_ev (d := d) (t := t) (place := place) (by omega) (by omega) R
 have c1 := cDeclS_le (l := d)
 have c3 := cTNodeS_le (l := t)
 have p3 := markTNodeS_of (l := t) (by omega)
 have e0 := fun R => laws_eqInt64S_ev (l := rulesOf d t place) (l' := rulesOf d t place) (by omega) R
 have m1 := fun R => laws_markDeclS_ev (l := d) (k := 1) (by omega) (by omega) (by omega) R
 have m3 := fun R => laws_markTerm_ev (a0 := t) (k := 1 + (cDeclS d : Int)) (by omega) (by omega) (by omega) p3 R
 have m0 := fun R => laws_markInt64S_1_ev (l := rulesOf d t place) (k := 1) (by omega) (by omega) (by omega) R
 have k0 := fun R => laws_heldInt64S_ev (l := rulesOf d t place) (k := 1) (by omega) (by omega) (by omega) R
 refine Ev.suc.trans ?_
 simp only [laws_FnExactRules.q18, laws_FnExactRules.q18.b, laws_FnExactRules.j1, laws_FnExactRules.j0, t1, t3, s2, e0, m1, m3, m0, k0, and_self, Ev.andI, Ev.iteI, decide_true, Bool.not_true, Bool.false_eq_true, if_true, if_false, decide_eq_true_eq, decide_eq_false_iff_not]
 rw [if_pos (by omega), if_neg (by omega), if_neg (by omega)]
 exact Ev.s1 K _
theorem rules_law {d : List tDecl} {t : List tTNode} {place : Int} (hd : Gd (.sl 0 yDecl) d) (ht : Gd (.sl 0 yTNode) t) (h3 : Gd (.int .i64) place) (K : Bool → Prop) :
  Ev (fun n => laws_FnExactRules.c n d t place K) ↔ K true := by
 refine Ev.suc.trans ?_
 simp only [laws_FnExactRules.c, laws_FnExactRules.w]
 rw [laws_szDeclS_ev (by omega) (by omega) hd.1 (szDeclS_gd hd)]
 simp only [Ev.iteI, decide_eq_true_eq, Ev.k]
 by_cases z1 : ((d.length + sDeclS d : Nat) : Int) ≤ 1048576
 ·rw [szr_ok z1, if_neg (by omega), laws_szTerm_ev (by omega) (by omega) ht.1 (szTNodeS_gd ht)]
  simp only [Ev.iteI, decide_eq_true_eq, Ev.k]
  by_cases z3 : ((t.length + sTNodeS t : Nat) : Int) ≤ 1048576 - ((d.length + sDeclS d : Nat) : Int)
  ·rw [szr_ok z3, if_neg (by omega)]
   have hr := rulesOf_len (d := d) (t := t) (place := place)
   have t1 := fun R => laws_toDeclS_ev (l := d) (by omega) R
   have t3 := fun R => laws_toTerm_ev (a0 := t) (by omega) R
   have s1 := fun R => rulesOfS_ev (d := d) (t := t) (place := place) (by omega) (by omega) (term_wd ht (by omega)) R
   have s2 := fun R => rulesOf_ev (d := d) (t := t) (place := place) (by omega) (by omega) R
   have e0 := fun R => laws_eqInt64S_ev (l := rulesOf d t place) (l' := rulesOf d t place) (by omega) R
   have e1 := fun R => laws_eqDeclS_ev (l := d) (l' := d) (by omega) R
   have e3 := fun R => laws_eqTerm_ev (a0 := t) (b0 := t) (by omega) (eqTNodeS_of (by omega)) R
   have kk := rules_q18 (d := d) (t := t) (place := place) ht (by omega) (fun _ => K)
   simp only [laws_FnExactRules.j2, t1, t3, s1, s2, e0, e1, e3, and_self, decide_true, Bool.not_true, Bool.false_eq_true, if_true, if_false, Ev.andI, kk, Ev.k]
  ·rw [szr_no z3, if_pos (by omega)]
 ·rw [szr_no z1, if_pos (by omega)]
end Go.Vsi
end
