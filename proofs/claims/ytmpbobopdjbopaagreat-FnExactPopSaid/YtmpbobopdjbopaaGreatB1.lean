/- What the told functions answer. No statement is proved here. -/
import Derived.Test.YtmpbobopdjbopaaGreatA1

section
set_option linter.unusedVariables false
namespace Go.Vsi
def Ev (P : Nat → Prop) : Prop := ∃ N, ∀ n, N ≤ n → P n
theorem Ev.succ {P : Nat → Prop} : Ev (fun n => P (n + 1)) → Ev P
 | ⟨N, h⟩ => ⟨N + 1, fun n hn => by obtain ⟨m, rfl⟩ : ∃ m, n = m + 1 := ⟨n - 1, by omega⟩; exact h m (by omega)⟩
theorem Ev.shift {P : Nat → Prop} : Ev P → Ev (fun n => P (n + 1))
 | ⟨N, h⟩ => ⟨N, fun n hn => h (n + 1) (by omega)⟩
theorem Ev.and {P Q : Nat → Prop} : Ev P → Ev Q → Ev (fun n => P n ∧ Q n)
 | ⟨N, h⟩, ⟨M, g⟩ => ⟨max N M, fun n hn => ⟨h n (by omega), g n (by omega)⟩⟩
theorem Ev.const {p : Prop} (h : p) : Ev (fun _ => p) := ⟨0, fun _ _ => h⟩
theorem Ev.some {P : Nat → Prop} : Ev P → ∃ n, P n
 | ⟨N, h⟩ => ⟨N, h N (Nat.le_refl _)⟩
theorem wrap64 {x : Int} (h1 : -9223372036854775808 ≤ x) (h2 : x < 9223372036854775808) : IntKind.wrap .i64 x = x := by
 simp only [IntKind.wrap, IntKind.bits, IntKind.signed, Bool.true_and]
 split <;> simp_all <;> omega
theorem wrapU {x : Int} (h1 : 0 ≤ x) (h2 : x < 18446744073709551616) : IntKind.wrap .u64 x = x := by
 simp only [IntKind.wrap, IntKind.bits, IntKind.signed, Bool.false_and]
 simp; omega
theorem wrap8 {x : Int} (h1 : 0 ≤ x) (h2 : x < 256) : IntKind.wrap .u8 x = x := by
 simp only [IntKind.wrap, IntKind.bits, IntKind.signed, Bool.false_and]
 simp; omega
theorem tdivP {x m : Int} (h : 0 ≤ x) : Int.tdiv x m = x / m := Int.tdiv_eq_ediv_of_nonneg h
theorem tmodP {x m : Int} (h : 0 ≤ x) : Int.tmod x m = x % m := Int.tmod_eq_emod_of_nonneg h
theorem fdivP {x m : Int} (h : 0 ≤ m) : Int.fdiv x m = x / m := Int.fdiv_eq_ediv_of_nonneg x h
def W (ws : List Nat) : List Int := ws.map Int.ofNat
theorem W_len (ws : List Nat) : (W ws).length = ws.length := by simp [W]
theorem W_rd (ws : List Nat) (i : Nat) : rd (W ws) i = ((ws.getD i 0 : Nat) : Int) := by
 simp only [rd, W, List.getD_eq_getElem?_getD, List.getElem?_map]
 cases ws[i]? <;> rfl
def Below (m : Nat) (ws : List Nat) : Prop := ∀ x ∈ ws, x < m
theorem W_of {m : Nat} : ∀ {l : List Int}, (∀ x ∈ l, 0 ≤ x ∧ x < (m : Int)) → ∃ ws, l = W ws ∧ Below m ws
 | [], _ => ⟨[], rfl, by simp [Below]⟩
 | x :: l, h => by
  obtain ⟨ws, rfl, hb⟩ := W_of (l := l) fun y hy => h y (by simp [hy])
  have hx := h x (by simp)
  refine ⟨x.toNat :: ws, ?_, ?_⟩
  ·simp only [W, List.map_cons, List.cons.injEq, and_true]
   show x = (x.toNat : Int); omega
  ·intro y hy
   simp only [List.mem_cons] at hy
   rcases hy with rfl | hy
   ·omega
   ·exact hb y hy
theorem Below.getD {m : Nat} {ws : List Nat} (h : Below m ws) (hm : 0 < m) (i : Nat) : ws.getD i 0 < m := by
 rw [List.getD_eq_getElem?_getD]
 cases hw : ws[i]? with
 | none => exact hm
 | some y => exact h y (List.mem_of_getElem? hw)
theorem Below.set {m : Nat} {ws : List Nat} (h : Below m ws) {i x : Nat} (hx : x < m) : Below m (ws.set i x) := by
 intro y hy
 rcases List.mem_or_eq_of_mem_set hy with h' | rfl
 ·exact h y h'
 ·exact hx
theorem Below.app {m : Nat} {a b : List Nat} (ha : Below m a) (hb : Below m b) : Below m (a ++ b) := by
 intro y hy
 rcases List.mem_append.mp hy with h | h
 ·exact ha y h
 ·exact hb y h
theorem and_W {a b : Nat} (ha : a < 18446744073709551616) (hb : b < 18446744073709551616) : ibits .and .u64 (a : Int) (b : Int) = ((a &&& b : Nat) : Int) := by
 have hab : a &&& b < 2 ^ 64 := Nat.and_lt_two_pow a hb
 show IntKind.wrap .u64 (((BitVec.ofInt 64 (a : Int) &&& BitVec.ofInt 64 (b : Int) : BitVec 64).toNat : Nat) : Int) = _
 rw [BitVec.toNat_and, BitVec.ofInt_natCast, BitVec.ofInt_natCast, BitVec.toNat_ofNat, BitVec.toNat_ofNat]
 rw [Nat.mod_eq_of_lt ha, Nat.mod_eq_of_lt hb]
 exact wrapU (by omega) (by omega)
theorem shr_W (a k : Nat) (hk : k ≤ 64) : Int.fdiv (a : Int) (2 ^ (Nat.min k 64)) = ((a >>> k : Nat) : Int) := by
 rw [fdivP (Int.le_of_lt (Int.pow_pos (by decide))), show Nat.min k 64 = k from Nat.min_eq_left hk, Nat.shiftRight_eq_div_pow]
 simp
def bit (ws : List Nat) (i : Nat) : Bool := (ws.getD (i / 64) 0).testBit (i % 64)
theorem bit_out {ws : List Nat} {i : Nat} (h : 64 * ws.length ≤ i) : bit ws i = false := by
 have : ws.length ≤ i / 64 := by omega
 simp [bit, List.getD_eq_getElem?_getD, List.getElem?_eq_none this]
end Go.Vsi
end

section
set_option linter.unusedVariables false
namespace Go.Vsi
theorem Ev.suc {P : Nat → Prop} : Ev P ↔ Ev (fun n => P (n + 1)) := ⟨Ev.shift, Ev.succ⟩
theorem Ev.s0 (R : Nat → Prop) : Ev (fun n => R (n + 1)) ↔ Ev (fun n => R n) := ⟨Ev.succ, Ev.shift⟩
theorem Ev.s1 {α : Type} (R : Nat → α → Prop) (a : α) : Ev (fun n => R (n + 1) a) ↔ Ev (fun n => R n a) := Ev.s0 (fun n => R n a)
theorem Ev.s2 {α β : Type} (R : Nat → α → β → Prop) (a : α) (b : β) : Ev (fun n => R (n + 1) a b) ↔ Ev (fun n => R n a b) := Ev.s0 (fun n => R n a b)
theorem Ev.s3 {α β γ : Type} (R : Nat → α → β → γ → Prop) (a : α) (b : β) (c : γ) : Ev (fun n => R (n + 1) a b c) ↔ Ev (fun n => R n a b c) := Ev.s0 (fun n => R n a b c)
theorem Ev.s4 {α β γ δ : Type} (R : Nat → α → β → γ → δ → Prop) (a : α) (b : β) (c : γ) (d : δ) : Ev (fun n => R (n + 1) a b c d) ↔ Ev (fun n => R n a b c d) := Ev.s0 (fun n => R n a b c d)
theorem Ev.s5 {α β γ δ ε : Type} (R : Nat → α → β → γ → δ → ε → Prop) (a : α) (b : β) (c : γ) (d : δ) (e : ε) : Ev (fun n => R (n + 1) a b c d e) ↔ Ev (fun n => R n a b c d e) := Ev.s0 (fun n => R n a b c d e)
theorem Ev.s6 {α β γ δ ε ζ : Type} (R : Nat → α → β → γ → δ → ε → ζ → Prop) (a : α) (b : β) (c : γ) (d : δ) (e : ε) (f : ζ) : Ev (fun n => R (n + 1) a b c d e f) ↔ Ev (fun n => R n a b c d e f) := Ev.s0 (fun n => R n a b c d e f)
theorem Ev.s7 {α β γ δ ε ζ η : Type} (R : Nat → α → β → γ → δ → ε → ζ → η → Prop) (a : α) (b : β) (c : γ) (d : δ) (e : ε) (f : ζ) (g : η) : Ev (fun n => R (n + 1) a b c d e f g) ↔ Ev (fun n => R n a b c d e f g) := Ev.s0 (fun n => R n a b c d e f g)
theorem Ev.s8 {α β γ δ ε ζ η θ : Type} (R : Nat → α → β → γ → δ → ε → ζ → η → θ → Prop) (a : α) (b : β) (c : γ) (d : δ) (e : ε) (f : ζ) (g : η) (h : θ) : Ev (fun n => R (n + 1) a b c d e f g h) ↔ Ev (fun n => R n a b c d e f g h) := Ev.s0 (fun n => R n a b c d e f g h)
theorem Ev.s9 {α β γ δ ε ζ η θ ι : Type} (R : Nat → α → β → γ → δ → ε → ζ → η → θ → ι → Prop) (a : α) (b : β) (c : γ) (d : δ) (e : ε) (f : ζ) (g : η) (h : θ) (i : ι) : Ev (fun n => R (n + 1) a b c d e f g h i) ↔ Ev (fun n => R n a b c d e f g h i) := Ev.s0 (fun n => R n a b c d e f g h i)
theorem Ev.s10 {α β γ δ ε ζ η θ ι κ : Type} (R : Nat → α → β → γ → δ → ε → ζ → η → θ → ι → κ → Prop) (a : α) (b : β) (c : γ) (d : δ) (e : ε) (f : ζ) (g : η) (h : θ) (i : ι) (j : κ) : Ev (fun n => R (n + 1) a b c d e f g h i j) ↔ Ev (fun n => R n a b c d e f g h i j) := Ev.s0 (fun n => R n a b c d e f g h i j)
@[simp] theorem Ev.k {p : Prop} : Ev (fun _ => p) ↔ p := ⟨fun ⟨_, h⟩ => h _ (Nat.le_refl _), Ev.const⟩
@[simp] theorem Ev.iteI {c : Prop} [Decidable c] {P Q : Nat → Prop} : Ev (fun n => if c then P n else Q n) ↔ if c then Ev P else Ev Q := by
 by_cases h : c <;> simp only [h, if_true, if_false]
@[simp] theorem Ev.andI {P Q : Nat → Prop} : Ev (fun n => P n ∧ Q n) ↔ Ev P ∧ Ev Q :=
 ⟨fun ⟨N, h⟩ => ⟨⟨N, fun n hn => (h n hn).1⟩, ⟨N, fun n hn => (h n hn).2⟩⟩, fun h => Ev.and h.1 h.2⟩
theorem grd_dec {p : Prop} [Decidable p] {P : Prop} (h : p) : grd (decide p) P ↔ P := by rw [decide_eq_true h]; exact Iff.rfl
theorem grd_dec2 {p q : Prop} [Decidable p] [Decidable q] {P : Prop} (h : p ∧ q) : grd (decide p && decide q) P ↔ P := by rw [decide_eq_true h.1, decide_eq_true h.2]; exact Iff.rfl
theorem grd_dec3 {p q r : Prop} [Decidable p] [Decidable q] [Decidable r] {P : Prop} (h : p ∧ q ∧ r) : grd (decide p && decide q && decide r) P ↔ P := by rw [decide_eq_true h.1, decide_eq_true h.2.1, decide_eq_true h.2.2]; exact Iff.rfl
@[simp] theorem grd_true {P : Prop} : grd true P ↔ P := Iff.rfl
theorem drop_nil {α : Type} {l : List α} {x : Int} (h : l.drop x.toNat = []) (h0 : 0 ≤ x) : (l.length : Int) ≤ x := by
 have := List.drop_eq_nil_iff.1 h; omega
theorem drop_cons {α : Type} [Inhabited α] {l ys : List α} {x : Int} {y : α} (h : l.drop x.toNat = y :: ys) (h0 : 0 ≤ x) :
  x < (l.length : Int) ∧ rd l x.toNat = y ∧ l.drop (x + 1).toNat = ys := by
 have hl : x.toNat < l.length := by
  rcases Nat.lt_or_ge x.toNat l.length with h' | h'
  ·exact h'
  ·rw [List.drop_eq_nil_of_le h'] at h; cases h
 refine ⟨by omega, ?_, ?_⟩
 ·have := List.getElem?_drop (xs := l) (i := x.toNat) (j := 0)
  rw [h] at this
  simp only [List.getElem?_cons_zero, Nat.add_zero] at this
  simp [rd, List.getD_eq_getElem?_getD, ← this]
 ·rw [show (x + 1).toNat = x.toNat + 1 from by omega, ← List.drop_drop, h]; rfl
theorem drop_set {α : Type} {l ys : List α} {x : Int} {v : α} (h : l.drop (x + 1).toNat = ys) (h0 : 0 ≤ x) : (l.set x.toNat v).drop (x + 1).toNat = ys := by
 rw [List.drop_set_of_lt (by omega), h]
theorem take_set {α : Type} {l : List α} {x : Int} {v : α} (h0 : 0 ≤ x) (hx : x < (l.length : Int)) : (l.set x.toNat v).take (x + 1).toNat = l.take x.toNat ++ [v] := by
 have e : (x + 1).toNat = x.toNat + 1 := by omega
 have hl : x.toNat < l.length := by omega
 rw [e, List.take_succ_eq_append_getElem (by simpa using hl), List.take_set_of_le (by omega)]
 simp
theorem rd_set {α : Type} [Inhabited α] {l : List α} {i : Nat} {v : α} (h : i < l.length) : rd (l.set i v) i = v := by
 simp [rd, List.getD_eq_getElem?_getD, h]
theorem ev_arg {α : Type} {R : Nat → α → Prop} {a b : α} (h : a = b) : Ev (fun n => R n a) ↔ Ev (fun n => R n b) := by rw [h]
theorem ev_bool {R : Nat → Bool → Prop} {b : Bool} : (if b = true then Ev (fun n => R n true) else Ev (fun n => R n false)) ↔ Ev (fun n => R n b) := by cases b <;> simp
theorem ev_arg4n {α β γ δ : Type} {R : Nat → α → β → γ → δ → Prop} {a b : α} {c : β} {d : γ} {e : δ} (h : a = b) : Ev (fun n => R n a c d e) ↔ Ev (fun n => R n b c d e) := by rw [h]
theorem ev_arg2 {α β : Type} {R : Nat → α → β → Prop} {a b : α} {c : β} (h : a = b) : Ev (fun n => R n a c) ↔ Ev (fun n => R n b c) := by rw [h]
theorem ev_arg3 {α β : Type} {R : Nat → α → β → Prop} {a b : α} {c d : β} (h : a = b) (h' : c = d) : Ev (fun n => R n a c) ↔ Ev (fun n => R n b d) := by rw [h, h']
def Gd : (t : Ty) → t.T → Prop
 | .int k, n => k.min ≤ n ∧ n ≤ k.max
 | .str, s => s.length ≤ 9223372036854775807
 | .sl _ t, l => l.length ≤ 9223372036854775807 ∧ ∀ y, y ∈ l → Gd t y
 | .prod a b, p => Gd a p.1 ∧ Gd b p.2
 | .bool, _ => True
 | .unit, _ => True
 | .ptr _ _, _ => True
def firstIx {α : Type} (p : α → Bool) : List α → Int → Int
 | [], _ => -1
 | y :: r, x => if p y = true then x else firstIx p r (x + 1)
theorem firstIx_neg {α : Type} {p : α → Bool} : ∀ {l : List α} {x : Int}, 0 ≤ x → firstIx p l x < 0 → firstIx p l x = -1
 | [], x, _, _ => rfl
 | y :: l, x, h0, h => by
  rw [firstIx] at h ⊢
  split
  ·rename_i hp; rw [if_pos hp] at h; omega
  ·rename_i hp; rw [if_neg hp] at h; exact firstIx_neg (by omega) h
theorem firstIx_any {α : Type} {p : α → Bool} : ∀ {l : List α} {x : Int}, 0 ≤ x → decide (firstIx p l x ≥ 0) = l.any p
 | [], x, _ => by simp [firstIx]
 | y :: l, x, h0 => by
  rw [firstIx, List.any_cons]
  by_cases hp : p y = true
  ·simp [hp, h0]
  ·rw [if_neg hp, firstIx_any (by omega)]
   simp only [Bool.not_eq_true] at hp
   simp [hp]
def szr (left : Int) (z : Nat) : Int := if left < z then -1 else left - z
theorem szr_neg {left : Int} {z : Nat} : szr left z < 0 ↔ left < z := by unfold szr; split <;> omega
theorem szr_ok {left : Int} {z : Nat} (h : (z : Int) ≤ left) : szr left z = left - z := by unfold szr; rw [if_neg (by omega)]
theorem szr_no {left : Int} {z : Nat} (h : ¬ (z : Int) ≤ left) : szr left z = -1 := by unfold szr; rw [if_pos (by omega)]
theorem szr_two {left : Int} {y z : Nat} (h : 0 ≤ left) (hy : ¬ szr left y < 0) : szr (szr left y) z = szr left (y + z) := by
 rw [szr_neg] at hy
 unfold szr; split <;> split <;> split <;> omega
theorem szr_back {left : Int} {y z : Nat} (h : szr left y < 0) : szr left (y + z) = -1 := by
 rw [szr_neg] at h; unfold szr; split <;> omega
theorem szr_m1 {left : Int} {z : Nat} (h : -1 ≤ left) : -1 ≤ szr left z := by unfold szr; split <;> omega
theorem szr_le' {left b : Int} {z : Nat} (h : -1 ≤ left) (h' : left ≤ b) : szr left z ≤ b := by unfold szr; split <;> omega
end Go.Vsi
end

section
set_option linter.unusedVariables false
set_option linter.unusedSimpArgs false
set_option synthInstance.maxSize 4096
namespace Go.Vsi
theorem Ev.impI {p : Prop} {P : Nat → Prop} : Ev (fun n => p → P n) ↔ (p → Ev P) := by
 by_cases h : p
 ·simp only [h, true_imp_iff]
 ·simp only [h, false_imp_iff, iff_true]; exact ⟨0, fun _ _ => trivial⟩
theorem clone_ev {l : List Int} (hl : l.length ≤ 1099511627776) (R : Nat → List Int → Prop) :
  Ev (fun n => slices_Clone_uint64.c n l (R n)) ↔ Ev (fun n => R n l) := by
 refine Ev.suc.trans ?_
 simp (disch := (simp only [List.length_nil]; omega)) only [slices_Clone_uint64.c, slices_Clone_uint64.w, Ev.andI, Ev.impI, grd_dec, List.nil_append, Ev.s1 R]
 constructor
 ·exact fun h => h.2
 ·refine fun h => ⟨fun e => ?_, h⟩
  rw [List.eq_nil_of_length_eq_zero e] at h; exact h
theorem cloneBits_ev {a : Int} {l : List Int} (hl : l.length ≤ 1099511627776) (R : Nat → Int → List Int → Prop) :
  Ev (fun n => impl_cloneBits.c n a l (R n)) ↔ Ev (fun n => R n a l) := by
 refine Ev.suc.trans ?_
 simp (disch := omega) only [impl_cloneBits.c, impl_cloneBits.w, Ev.andI, and_self, clone_ev, Ev.s2 R]
end Go.Vsi
end

section
set_option linter.unusedVariables false
set_option linter.unusedSimpArgs false
set_option synthInstance.maxSize 4096
namespace Go.Vsi
def Wd (l : List Int) : Prop := ∀ x ∈ l, 0 ≤ x ∧ x ≤ 18446744073709551615
def bitsOk (w : Int) (l : List Int) : Bool := decide (1 ≤ w ∧ w ≤ 4096 ∧ (l.length : Int) = (w + 63) / 64 ∧ (w % 64 = 0 ∨ rd l (l.length - 1) / 2 ^ (w % 64).toNat = 0))
theorem bit_div {x j : Nat} : x / 2 ^ j % 2 = (x.testBit j).toNat := by
 rw [Nat.testBit, Nat.shiftRight_eq_div_pow, Nat.one_and_eq_mod_two]
 rcases Nat.mod_two_eq_zero_or_one (x / 2 ^ j) with h | h <;> simp [h]
theorem l1In_ev {a b c : Int} (R : Nat → Bool → Prop) : Ev (fun n => spec_l1In.c n a b c (R n)) ↔ Ev (fun n => R n (decide (b ≤ a ∧ a ≤ c))) := by
 refine Ev.suc.trans ?_
 simp only [spec_l1In.c, spec_l1In.w, Ev.iteI, decide_eq_true_eq, Ev.s1 R, ge_iff_le]
 split
 ·refine ev_arg ?_; rw [decide_eq_decide]; omega
 ·refine ev_arg ?_; symm; rw [decide_eq_false_iff_not]; omega
theorem inside_ev {a b c : Int} (R : Nat → Bool → Prop) : Ev (fun n => impl_inside.c n a b c (R n)) ↔ Ev (fun n => R n (decide (b ≤ a ∧ a ≤ c))) := by
 refine Ev.suc.trans ?_
 simp only [impl_inside.c, impl_inside.w, Ev.iteI, decide_eq_true_eq, Ev.s1 R, ge_iff_le]
 split
 ·refine ev_arg ?_; rw [decide_eq_decide]; omega
 ·refine ev_arg ?_; symm; rw [decide_eq_false_iff_not]; omega
theorem wordsFor_ev {a : Int} (h0 : 0 ≤ a) (h1 : a ≤ 1000000000) (R : Nat → Int → Prop) : Ev (fun n => impl_wordsFor.c n a (R n)) ↔ Ev (fun n => R n ((a + 63) / 64)) := by
 refine Ev.suc.trans ?_
 simp (disch := omega) only [impl_wordsFor.c, impl_wordsFor.w, wrap64, tdivP, Ev.s1 R]
theorem l1Bit_ev {ws : List Nat} (hw : Below 18446744073709551616 ws) {k : Nat} (hk : k < 64 * ws.length) (hl : ws.length ≤ 4096) {w : Int} (R : Nat → Int → Prop) :
  Ev (fun n => spec_l1Bit.c n w (W ws) k (R n)) ↔ Ev (fun n => R n ((bit ws k).toNat : Int)) := by
 refine Ev.suc.trans ?_
 have e : ibits .and .u64 ((ws.getD (k / 64) 0 >>> (k % 64) : Nat) : Int) 1 = (((bit ws k).toNat : Nat) : Int) := by
  have hx : ws.getD (k / 64) 0 >>> (k % 64) < 18446744073709551616 := by
   rw [Nat.shiftRight_eq_div_pow]; exact Nat.lt_of_le_of_lt (Nat.div_le_self _ _) (hw.getD (by decide) _)
  rw [show (1 : Int) = ((1 : Nat) : Int) from rfl, and_W hx (by decide), Nat.and_one_is_mod, Nat.shiftRight_eq_div_pow, bit_div]; rfl
 have e1 : Int.toNat ((k : Int) / 64) = k / 64 := by omega
 have e2 : Int.toNat ((k : Int) % 64) = k % 64 := by omega
 simp (disch := omega) only [spec_l1Bit.c, spec_l1Bit.w, W_len, tdivP, tmodP, wrap64, wrapU, grd_dec2, grd_dec, e1, e2, W_rd, shr_W, e]
 rw [wrap8 (by omega) (by cases bit ws k <;> simp), Ev.s1 R]
theorem specOk_lp {ws : List Nat} (hw : Below 18446744073709551616 ws) (hl : ws.length ≤ 4096) {w : Int} : ∀ (m k : Nat), k + m = 64 * ws.length → ∃ b : Bool, (b = true ↔ ∀ i, k ≤ i → bit ws i = false) ∧
  ∀ (Kx : Nat → Prop) (Kr : Nat → Bool → Prop), (Ev (fun n => spec_BitsOk.l4 n w (W ws) k (Kx n) (Kr n)) ↔ if b = true then Ev Kx else Ev (fun n => Kr n false))
 | 0, k, h => by
  refine ⟨true, ⟨fun _ i hi => bit_out (by omega), fun _ => rfl⟩, fun Kx Kr => ?_⟩
  refine Ev.suc.trans ?_
  simp (disch := omega) only [spec_BitsOk.l4, spec_BitsOk.l4.b, W_len, wrap64, if_neg, decide_eq_true_eq, Ev.s0 Kx, if_true]
 | m + 1, k, h => by
  obtain ⟨b, hb, kk⟩ := specOk_lp hw hl (w := w) m (k + 1) (by omega)
  refine ⟨b && !bit ws k, ?_, fun Kx Kr => ?_⟩
  ·simp only [Bool.and_eq_true, Bool.not_eq_true', hb]
   constructor
   ·rintro ⟨h1, h2⟩ i hi
    rcases Nat.lt_or_eq_of_le hi with h' | rfl
    ·exact h1 i h'
    ·exact h2
   ·exact fun h => ⟨fun i hi => h i (by omega), h k (Nat.le_refl _)⟩
  ·refine Ev.suc.trans ?_
   have e : ((k : Int) + 1) = ((k + 1 : Nat) : Int) := by omega
   simp (disch := omega) only [spec_BitsOk.l4, spec_BitsOk.l4.b, W_len, wrap64, if_pos, decide_eq_true_eq, l1Bit_ev hw _ hl, Ev.iteI, Bool.not_eq_true', decide_eq_false_iff_not, e, kk, Ev.s0 Kx, Ev.s1 Kr]
   cases bit ws k <;> simp
theorem top_last {w : Int} {ws : List Nat} (hw : Below 18446744073709551616 ws) (h1 : 1 ≤ w) (h2 : (ws.length : Int) = (w + 63) / 64) (hr : w % 64 ≠ 0) :
  ws.getD (ws.length - 1) 0 >>> (w % 64).toNat = 0 ↔ ∀ i : Nat, w ≤ i → bit ws i = false := by
 constructor
 ·intro h i hi
  by_cases ho : 64 * ws.length ≤ i
  ·exact bit_out ho
  ·have e1 : i / 64 = ws.length - 1 := by omega
   have := congrArg (fun y => Nat.testBit y (i % 64 - (w % 64).toNat)) h
   simp only [Nat.testBit_shiftRight, Nat.zero_testBit] at this
   rw [show (w % 64).toNat + (i % 64 - (w % 64).toNat) = i % 64 from by omega] at this
   rw [bit, e1]; exact this
 ·intro h
  apply Nat.eq_of_testBit_eq
  intro j
  rw [Nat.testBit_shiftRight, Nat.zero_testBit]
  by_cases hj : (w % 64).toNat + j < 64
  ·have := h (64 * (ws.length - 1) + ((w % 64).toNat + j)) (by omega)
   rw [bit, show (64 * (ws.length - 1) + ((w % 64).toNat + j)) / 64 = ws.length - 1 from by omega, show (64 * (ws.length - 1) + ((w % 64).toNat + j)) % 64 = (w % 64).toNat + j from by omega] at this
   exact this
  ·exact Nat.testBit_lt_two_pow (Nat.lt_of_lt_of_le (hw.getD (by decide) _) (Nat.pow_le_pow_right (n := 2) (by decide) (Nat.not_lt.mp hj)))
theorem bitsOk_W {w : Int} {ws : List Nat} (hw : Below 18446744073709551616 ws) : bitsOk w (W ws) = true ↔ 1 ≤ w ∧ w ≤ 4096 ∧ (ws.length : Int) = (w + 63) / 64 ∧ ∀ i : Nat, w ≤ i → bit ws i = false := by
 rw [bitsOk, decide_eq_true_eq, W_len, W_rd]
 refine ⟨fun ⟨h1, h2, h3, h4⟩ => ⟨h1, h2, h3, ?_⟩, fun ⟨h1, h2, h3, h4⟩ => ⟨h1, h2, h3, ?_⟩⟩
 ·by_cases h5 : w % 64 = 0
  ·exact fun i hi => bit_out (by omega)
  ·rcases h4 with h4 | h4
   ·exact absurd h4 h5
   ·rw [← top_last hw h1 h3 h5, Nat.shiftRight_eq_div_pow]
    exact_mod_cast h4
 ·by_cases h5 : w % 64 = 0
  ·exact Or.inl h5
  ·have := (top_last hw h1 h3 h5).2 h4
   rw [Nat.shiftRight_eq_div_pow] at this
   exact Or.inr (by exact_mod_cast this)
theorem Wd.of {l : List Int} (h : Wd l) : ∃ ws, l = W ws ∧ Below 18446744073709551616 ws := W_of fun x hx => ⟨(h x hx).1, by have := (h x hx).2; omega⟩
theorem specOk_ev {w : Int} {l : List Int} (hw : Wd l) (R : Nat → Bool → Prop) : Ev (fun n => spec_BitsOk.c n w l (R n)) ↔ Ev (fun n => R n (bitsOk w l)) := by
 obtain ⟨ws, rfl, hB⟩ := hw.of
 have hiff := bitsOk_W (w := w) hB
 refine Ev.suc.trans ?_
 simp (disch := omega) only [spec_BitsOk.c, spec_BitsOk.w, l1In_ev, Ev.iteI, Bool.not_eq_false', Bool.not_eq_true', decide_eq_true_eq, decide_eq_false_iff_not, W_len]
 by_cases h1 : 1 ≤ w ∧ w ≤ 4096
 ·rw [if_pos h1, wrap64 (x := w + 63) (by omega) (by omega), tdivP (by omega), wrap64 (by omega) (by omega)]
  by_cases h2 : (ws.length : Int) = (w + 63) / 64
  ·obtain ⟨b, hb, kk⟩ := specOk_lp hB (by omega) (w := w) (64 * ws.length - w.toNat) w.toNat (by omega)
   have e : ((w.toNat : Nat) : Int) = w := by omega
   rw [e] at kk
   rw [if_neg (by omega), kk, Ev.s1 R, Ev.s1 R]
   have : b = bitsOk w (W ws) := by
    rw [Bool.eq_iff_iff, hb, hiff]
    exact ⟨fun h => ⟨h1.1, h1.2, h2, fun i hi => h i (by omega)⟩, fun h i hi => h.2.2.2 i (by omega)⟩
   rw [← this]
   cases b <;> rfl
  ·rw [if_pos h2, Ev.s1 R]
   have : bitsOk w (W ws) = false := by
    rw [Bool.eq_false_iff]; intro h; exact h2 (hiff.1 h).2.2.1
   rw [this]
 ·rw [if_neg h1, Ev.s1 R]
  have : bitsOk w (W ws) = false := by
   rw [Bool.eq_false_iff]; intro h; exact h1 ⟨(hiff.1 h).1, (hiff.1 h).2.1⟩
  rw [this]
theorem implOk_ev {w : Int} {l : List Int} (R : Nat → Bool → Prop) : Ev (fun n => impl_BitsOk.c n w l (R n)) ↔ Ev (fun n => R n (bitsOk w l)) := by
 refine Ev.suc.trans ?_
 simp only [impl_BitsOk.c, impl_BitsOk.w, inside_ev, Ev.iteI, Ev.andI, Bool.not_eq_false', Bool.not_eq_true', decide_eq_true_eq, decide_eq_false_iff_not, Ev.s1 R, and_self]
 by_cases h1 : 1 ≤ w ∧ w ≤ 4096
 ·rw [if_pos h1]
  simp (disch := omega) only [wordsFor_ev, Ev.iteI, Bool.not_eq_true', decide_eq_false_iff_not, Ev.s1 R]
  by_cases h2 : (l.length : Int) = (w + 63) / 64
  ·rw [if_neg (by omega)]
   simp (disch := omega) only [impl_BitsOk.j0, tmodP, Ev.iteI, decide_eq_false_iff_not, wrap64, grd_dec2, grd_dec, Ev.s1 R]
   by_cases h3 : w % 64 = 0
   ·rw [if_neg (by omega), show bitsOk w l = true from by simp [bitsOk, h1, h2, h3]]
   ·rw [if_pos h3]
    refine ev_arg ?_
    have e1 : ((l.length : Int) - 1).toNat = l.length - 1 := by omega
    have e2 : Nat.min (w % 64).toNat 64 = (w % 64).toNat := Nat.min_eq_left (by omega)
    rw [e1, e2, fdivP (Int.le_of_lt (Int.pow_pos (by decide)))]
    simp [bitsOk, h1, h2, h3]
  ·rw [if_pos h2, show bitsOk w l = false from by simp [bitsOk, h2]]
 ·rw [if_neg h1, show bitsOk w l = false from by
   rw [Bool.eq_false_iff]; intro h; rw [bitsOk, decide_eq_true_eq] at h; exact h1 ⟨h.1, h.2.1⟩]
end Go.Vsi
end

section
set_option linter.unusedVariables false
set_option linter.unusedSimpArgs false
set_option synthInstance.maxSize 4096
namespace Go.Vsi
theorem getD_cons {l ys : List UInt8} {x : Int} {y : UInt8} (h : l.drop x.toNat = y :: ys) (h0 : 0 ≤ x) : x < (l.length : Int) ∧ List.getD l x.toNat 0 = y ∧ l.drop (x + 1).toNat = ys :=
 drop_cons h h0
def chOk (c : UInt8) : Bool := decide ((97 ≤ (c.toNat : Int) ∧ (c.toNat : Int) ≤ 122) ∨ (48 ≤ (c.toNat : Int) ∧ (c.toNat : Int) ≤ 57))
def nameOk (s : List UInt8) : Bool := decide (1 ≤ s.length ∧ s.length ≤ 12 ∧ 97 ≤ ((List.getD s 0 0).toNat : Int) ∧ ((List.getD s 0 0).toNat : Int) ≤ 122) && s.all chOk
theorem nameOk_lp {s : List UInt8} (hl : s.length ≤ 1099511627776) : ∀ (ys : List UInt8) (x : Int), s.drop x.toNat = ys → 0 ≤ x → ∀ (Kx : Nat → Prop) (Kr : Nat → Bool → Prop),
  (Ev (fun n => impl_nameOk.l4 n s x (Kx n) (Kr n)) ↔ if ys.all chOk = true then Ev Kx else Ev (fun n => Kr n false))
 | [], x, h, h0, Kx, Kr => by
  have := drop_nil h h0
  refine Ev.suc.trans ?_
  simp (disch := omega) only [impl_nameOk.l4, impl_nameOk.l4.b, if_neg, decide_eq_true_eq, Ev.s0 Kx, List.all_nil, if_true]
 | y :: ys, x, h, h0, Kx, Kr => by
  obtain ⟨e1, e2, e3⟩ := getD_cons h h0
  refine Ev.suc.trans ?_
  simp (disch := omega) only [impl_nameOk.l4, impl_nameOk.l4.b, if_pos, decide_eq_true_eq, decide_eq_false_iff_not, grd_dec2, e2, wrap64, Ev.iteI, nameOk_lp hl ys (x + 1) e3, Ev.s0 Kx, Ev.s1 Kr, List.all_cons, Bool.and_eq_true]
  simp only [chOk, decide_eq_true_eq]
  (repeat' split) <;> first | rfl | (exfalso; omega) | (exfalso; simp_all; omega) | (simp_all; done)
theorem nameOk_ev {s : List UInt8} (R : Nat → Bool → Prop) : Ev (fun n => impl_nameOk.c n s (R n)) ↔ Ev (fun n => R n (nameOk s)) := by
 refine Ev.suc.trans ?_
 simp only [impl_nameOk.c, impl_nameOk.w, Ev.iteI, decide_eq_true_eq, decide_eq_false_iff_not, nameOk]
 by_cases h1 : 1 ≤ s.length ∧ s.length ≤ 12
 ·rw [if_pos (by omega), if_pos (by omega)]
  simp (disch := omega) only [grd_dec, Ev.iteI, nameOk_lp (by omega) s 0 rfl, Ev.s1 R, decide_eq_false_iff_not, decide_eq_true_eq]
  by_cases h2 : 97 ≤ ((List.getD s 0 0).toNat : Int) ∧ ((List.getD s 0 0).toNat : Int) ≤ 122
  ·rw [if_pos (by omega), if_neg (by omega)]
   rw [show (decide (1 ≤ s.length ∧ s.length ≤ 12 ∧ 97 ≤ ((List.getD s 0 0).toNat : Int) ∧ ((List.getD s 0 0).toNat : Int) ≤ 122)) = true from by rw [decide_eq_true_eq]; omega, Bool.true_and]
   exact ev_bool
  ·rw [show (decide (1 ≤ s.length ∧ s.length ≤ 12 ∧ 97 ≤ ((List.getD s 0 0).toNat : Int) ∧ ((List.getD s 0 0).toNat : Int) ≤ 122)) = false from by rw [decide_eq_false_iff_not]; omega, Bool.false_and]
   split <;> (try split) <;> first | rfl | (exfalso; omega)
 ·rw [show (decide (1 ≤ s.length ∧ s.length ≤ 12 ∧ 97 ≤ ((List.getD s 0 0).toNat : Int) ∧ ((List.getD s 0 0).toNat : Int) ≤ 122)) = false from by rw [decide_eq_false_iff_not]; omega, Bool.false_and, Ev.s1 R]
  split <;> (try split) <;> first | rfl | (exfalso; omega)
theorem l1Digit_ev {a : Int} (R : Nat → Bool → Prop) : Ev (fun n => spec_l1Digit.c n a (R n)) ↔ Ev (fun n => R n (decide (48 ≤ a ∧ a ≤ 57))) := by
 refine Ev.suc.trans ?_
 simp only [spec_l1Digit.c, spec_l1Digit.w, Ev.iteI, decide_eq_true_eq, Ev.s1 R, ge_iff_le]
 split
 ·refine ev_arg ?_; rw [decide_eq_decide]; omega
 ·refine ev_arg ?_; symm; rw [decide_eq_false_iff_not]; omega
theorem l1Name_lp {s : List UInt8} (hl : s.length ≤ 1099511627776) : ∀ (ys : List UInt8) (x : Int), s.drop x.toNat = ys → 0 ≤ x → ∀ (Kx : Nat → Prop) (Kr : Nat → Bool → Prop),
  (Ev (fun n => spec_l1Name.l4 n s x (Kx n) (Kr n)) ↔ if ys.all chOk = true then Ev Kx else Ev (fun n => Kr n false))
 | [], x, h, h0, Kx, Kr => by
  have := drop_nil h h0
  refine Ev.suc.trans ?_
  simp (disch := omega) only [spec_l1Name.l4, spec_l1Name.l4.b, if_neg, decide_eq_true_eq, Ev.s0 Kx, List.all_nil, if_true]
 | y :: ys, x, h, h0, Kx, Kr => by
  obtain ⟨e1, e2, e3⟩ := getD_cons h h0
  refine Ev.suc.trans ?_
  simp (disch := omega) only [spec_l1Name.l4, spec_l1Name.l4.b, if_pos, decide_eq_true_eq, decide_eq_false_iff_not, Bool.not_eq_true', grd_dec2, e2, wrap64, l1Digit_ev, Ev.iteI, l1Name_lp hl ys (x + 1) e3, Ev.s0 Kx, Ev.s1 Kr, List.all_cons, Bool.and_eq_true]
  simp only [chOk, decide_eq_true_eq]
  (repeat' split) <;> first | rfl | (exfalso; omega) | (exfalso; simp_all; omega) | (simp_all; done)
theorem l1Name_ev {s : List UInt8} (R : Nat → Bool → Prop) : Ev (fun n => spec_l1Name.c n s (R n)) ↔ Ev (fun n => R n (nameOk s)) := by
 refine Ev.suc.trans ?_
 simp only [spec_l1Name.c, spec_l1Name.w, Ev.iteI, decide_eq_true_eq, decide_eq_false_iff_not, nameOk]
 by_cases h1 : 1 ≤ s.length ∧ s.length ≤ 12
 ·rw [if_pos (by omega), if_pos (by omega)]
  simp (disch := omega) only [grd_dec, l1Digit_ev, Ev.iteI, l1Name_lp (by omega) s 0 rfl, Ev.s1 R, decide_eq_false_iff_not, decide_eq_true_eq]
  match s, h1 with
  | c :: r, h1 =>
   have e : (List.getD (c :: r) 0 0) = c := rfl
   rw [e]
   by_cases h2 : 48 ≤ (c.toNat : Int) ∧ (c.toNat : Int) ≤ 57
   ·rw [if_pos h2, show (decide (1 ≤ (c :: r).length ∧ (c :: r).length ≤ 12 ∧ 97 ≤ (c.toNat : Int) ∧ (c.toNat : Int) ≤ 122)) = false from by rw [decide_eq_false_iff_not]; omega, Bool.false_and]
   ·rw [if_neg h2]
    by_cases h3 : chOk c = true
    ·have : 97 ≤ (c.toNat : Int) ∧ (c.toNat : Int) ≤ 122 := by
      rw [chOk, decide_eq_true_eq] at h3; omega
     rw [show (decide (1 ≤ (c :: r).length ∧ (c :: r).length ≤ 12 ∧ 97 ≤ (c.toNat : Int) ∧ (c.toNat : Int) ≤ 122)) = true from by rw [decide_eq_true_eq]; omega, Bool.true_and]
     exact ev_bool
    ·rw [List.all_cons, if_neg (by simp [h3]), show chOk c = false from by simpa using h3, Bool.false_and, Bool.and_false]
  | [], h1 => simp at h1
 ·rw [show (decide (1 ≤ s.length ∧ s.length ≤ 12 ∧ 97 ≤ ((List.getD s 0 0).toNat : Int) ∧ ((List.getD s 0 0).toNat : Int) ≤ 122)) = false from by rw [decide_eq_false_iff_not]; omega, Bool.false_and, Ev.s1 R]
  split <;> (try split) <;> first | rfl | (exfalso; omega)
theorem declared1_ev {a : List UInt8} {b : Int} {z : List UInt8} (R : Nat → Bool → Prop) : Ev (fun n => impl_declared_1.c n a b z (R n)) ↔ Ev (fun n => R n (decide (a = z))) := by
 refine Ev.suc.trans ?_
 simp only [impl_declared_1.c, impl_declared_1.w, Ev.s1 R]
 refine ev_arg ?_
 rw [Bool.eq_iff_iff]; simp
theorem slices_IndexFunc_Decl__impl_declared_1_lp {l : List tDecl} {z : List UInt8} (hl : l.length ≤ 1099511627776) : ∀ (ys : List tDecl) (x : Int), l.drop x.toNat = ys → 0 ≤ x →
  ∀ (Kx : Nat → Prop) (Kr : Nat → Int → Prop),
  (Ev (fun n => slices_IndexFunc_Decl__impl_declared_1.l2 n l z l.length x (Kx n) (Kr n)) ↔ if firstIx (fun y => decide (y.1 = z)) ys x < 0 then Ev Kx else Ev (fun n => Kr n (firstIx (fun y => decide (y.1 = z)) ys x)))
 | [], x, h, h0, Kx, Kr => by
  have := drop_nil h h0
  rw [firstIx, if_pos (by decide)]
  refine Ev.suc.trans ?_
  simp (disch := omega) only [slices_IndexFunc_Decl__impl_declared_1.l2, slices_IndexFunc_Decl__impl_declared_1.l2.b, if_neg, decide_eq_true_eq, Ev.s0 Kx]
 | y :: ys, x, h, h0, Kx, Kr => by
  obtain ⟨e1, e2, e3⟩ := drop_cons h h0
  refine Ev.suc.trans ?_
  simp (disch := first | omega | omega) only [slices_IndexFunc_Decl__impl_declared_1.l2, slices_IndexFunc_Decl__impl_declared_1.l2.b, if_pos, decide_eq_true_eq, grd_dec2, e2, wrap64, Ev.s1 Kr, declared1_ev, Ev.iteI]
  rw [slices_IndexFunc_Decl__impl_declared_1_lp hl ys (x + 1) e3 (by omega), Ev.s0 Kx, Ev.s1 Kr]
  simp only [firstIx, decide_eq_true_eq]
  split
  ·rw [if_neg (by omega)]
  ·rfl
theorem slices_IndexFunc_Decl__impl_declared_1_ev {l : List tDecl} {z : List UInt8} (hl : l.length ≤ 1099511627776) (R : Nat → Int → Prop) :
  Ev (fun n => slices_IndexFunc_Decl__impl_declared_1.c n l z (R n)) ↔ Ev (fun n => R n (firstIx (fun y => decide (y.1 = z)) l 0)) := by
 refine Ev.suc.trans ?_
 simp only [slices_IndexFunc_Decl__impl_declared_1.c, slices_IndexFunc_Decl__impl_declared_1.w]
 rw [slices_IndexFunc_Decl__impl_declared_1_lp hl l 0 rfl (by omega), Ev.s1 R, Ev.s1 R]
 split
 ·rw [firstIx_neg (by omega) ‹_›]
 ·rfl
theorem declared_ev {l : List tDecl} {z : List UInt8} (hl : l.length ≤ 1099511627776) (R : Nat → Int → Prop) : Ev (fun n => impl_declared.c n l z (R n)) ↔ Ev (fun n => R n (firstIx (fun y => decide (y.1 = z)) l 0)) := by
 refine Ev.suc.trans ?_
 simp only [impl_declared.c, impl_declared.w]
 rw [slices_IndexFunc_Decl__impl_declared_1_ev hl, Ev.s1 R]
def declsGo : List tDecl → List tDecl → Int → Bool
 | _, [], t => decide (t ≤ 20000)
 | pre, y :: r, t => nameOk y.1 && decide (1 ≤ y.2 ∧ y.2 ≤ 4096) && !(pre.any fun z => decide (z.1 = y.1)) && declsGo (pre ++ [y]) r (t + y.2)
def declsOk (l : List tDecl) : Bool := decide (l.length ≤ 60) && declsGo [] l 0
theorem take_succ {α : Type} {l ys : List α} {x : Int} {y : α} (h : l.drop x.toNat = y :: ys) (h0 : 0 ≤ x) : l.take (x + 1).toNat = l.take x.toNat ++ [y] := by
 have hl : x.toNat < l.length := by
  rcases Nat.lt_or_ge x.toNat l.length with h' | h'
  ·exact h'
  ·rw [List.drop_eq_nil_of_le h'] at h; cases h
 rw [show (x + 1).toNat = x.toNat + 1 from by omega, List.take_succ_eq_append_getElem hl]
 congr 2
 have := List.getElem?_drop (xs := l) (i := x.toNat) (j := 0)
 rw [h] at this
 simp only [List.getElem?_cons_zero, Nat.add_zero, List.getElem?_eq_getElem hl, Option.some.injEq] at this
 exact this.symm
theorem declsOk_lp {l : List tDecl} (hl : l.length ≤ 60) : ∀ (ys : List tDecl) (x t : Int), l.drop x.toNat = ys → 0 ≤ x → 0 ≤ t → t ≤ 4096 * x → ∀ (R : Nat → Bool → Prop),
  (Ev (fun n => impl_DeclsOk.l5 n l l l.length t x (fun y => R n (decide (y ≤ 20000))) (R n)) ↔ Ev (fun n => R n (declsGo (l.take x.toNat) ys t)))
 | [], x, t, h, h0, ht, ht', R => by
  have := drop_nil h h0
  refine Ev.suc.trans ?_
  simp (disch := omega) only [impl_DeclsOk.l5, impl_DeclsOk.l5.b, if_neg, decide_eq_true_eq, Ev.s1 R, declsGo]
 | y :: ys, x, t, h, h0, ht, ht', R => by
  obtain ⟨e1, e2, e3⟩ := drop_cons h h0
  refine Ev.suc.trans ?_
  have hd : (List.drop 0 (List.take x.toNat l)).length ≤ 1099511627776 := by simp; omega
  simp (disch := omega) only [impl_DeclsOk.l5, impl_DeclsOk.l5.b, if_pos, decide_eq_true_eq, grd_dec2, e2, nameOk_ev, inside_ev, Ev.iteI, Bool.not_eq_false', Ev.s1 R, declsGo]
  by_cases h1 : nameOk y.1 = true
  ·by_cases h2 : 1 ≤ y.2 ∧ y.2 ≤ 4096
   ·rw [if_pos h1, if_pos h2]
    simp (disch := omega) only [grd_dec3, declared_ev hd, Ev.iteI, wrap64, ge_iff_le]
    rw [declsOk_lp hl ys (x + 1) (t + y.2) e3 (by omega) (by omega) (by omega), Ev.s1 R, Ev.s1 R, take_succ h h0]
    have e := firstIx_any (p := fun z : tDecl => decide (z.1 = y.1)) (l := List.take x.toNat l) (x := 0) (by omega)
    rw [List.drop_zero]
    by_cases h3 : 0 ≤ firstIx (fun z : tDecl => decide (z.1 = y.1)) (List.take x.toNat l) 0
    ·rw [if_pos h3, ← e]; simp [h1, h2, h3]
    ·rw [if_neg h3, ← e]; simp [h1, h2, h3]
   ·rw [if_pos h1, if_neg h2]; simp [h1, h2]
  ·rw [if_neg h1]; simp [h1]
theorem declsOk_ev {l : List tDecl} (R : Nat → Bool → Prop) : Ev (fun n => impl_DeclsOk.c n l (R n)) ↔ Ev (fun n => R n (declsOk l)) := by
 refine Ev.suc.trans ?_
 simp only [impl_DeclsOk.c, impl_DeclsOk.w, Ev.iteI, decide_eq_true_eq, declsOk]
 by_cases h : l.length ≤ 60
 ·rw [if_neg (by omega), declsOk_lp h l 0 0 rfl (by omega) (by omega) (by omega) (fun n => R (n + 1)), Ev.s1 R]
  simp [h]
 ·rw [if_pos (by omega), Ev.s1 R]; simp [h]
theorem declsOkS_in {l : List tDecl} {t i : Int} {y : tDecl} (hl : l.length ≤ 60) (hi : rd l i.toNat = y) (hi0 : 0 ≤ i) (hi1 : i < (l.length : Int)) : ∀ (m : Nat) (k : Int), k + m = i → 0 ≤ k → ∀ (Kx : Nat → List tDecl → Int → Int → Prop) (Kr : Nat → Bool → Prop),
  (Ev (fun n => spec_DeclsOk.l10 n l t i k (Kx n) (Kr n)) ↔ if (((l.take i.toNat).drop k.toNat).any fun z => decide (z.1 = y.1)) = true then Ev (fun n => Kr n false) else Ev (fun n => Kx n l t i))
 | 0, k, h, h0, Kx, Kr => by
  refine Ev.suc.trans ?_
  simp (disch := omega) only [spec_DeclsOk.l10, spec_DeclsOk.l10.b, if_neg, decide_eq_true_eq, Ev.s3 Kx]
  rw [List.drop_eq_nil_of_le (by simp; omega)]
  simp
 | m + 1, k, h, h0, Kx, Kr => by
  refine Ev.suc.trans ?_
  have e : (l.take i.toNat).drop k.toNat = rd l k.toNat :: (l.take i.toNat).drop (k + 1).toNat := by
   have hk : k.toNat < (l.take i.toNat).length := by simp; omega
   rw [List.drop_eq_getElem_cons hk, show (k + 1).toNat = k.toNat + 1 from by omega]
   congr 1
   rw [List.getElem_take, rd, List.getD_eq_getElem?_getD, List.getElem?_eq_getElem (by omega)]; rfl
  simp (disch := omega) only [spec_DeclsOk.l10, spec_DeclsOk.l10.b, if_pos, decide_eq_true_eq, grd_dec2, hi, wrap64, Ev.iteI, beq_iff_eq, Ev.s1 Kr, e, List.any_cons, Bool.or_eq_true]
  rw [declsOkS_in hl hi hi0 hi1 m (k + 1) (by omega) (by omega), Ev.s1 Kr, Ev.s3 Kx]
  (repeat' split) <;> first | rfl | (exfalso; simp_all; done)
theorem declsOkS_lp {l : List tDecl} (hl : l.length ≤ 60) : ∀ (ys : List tDecl) (x t : Int), l.drop x.toNat = ys → 0 ≤ x → 0 ≤ t → t ≤ 4096 * x → ∀ (R : Nat → Bool → Prop),
  (Ev (fun n => spec_DeclsOk.l5 n l t x (fun y => R n (decide (y ≤ 20000))) (R n)) ↔ Ev (fun n => R n (declsGo (l.take x.toNat) ys t)))
 | [], x, t, h, h0, ht, ht', R => by
  have := drop_nil h h0
  refine Ev.suc.trans ?_
  simp (disch := omega) only [spec_DeclsOk.l5, spec_DeclsOk.l5.b, if_neg, decide_eq_true_eq, Ev.s1 R, declsGo]
 | y :: ys, x, t, h, h0, ht, ht', R => by
  obtain ⟨e1, e2, e3⟩ := drop_cons h h0
  refine Ev.suc.trans ?_
  simp (disch := omega) only [spec_DeclsOk.l5, spec_DeclsOk.l5.b, if_pos, decide_eq_true_eq, grd_dec2, e2, l1Name_ev, l1In_ev, Ev.iteI, Bool.not_eq_false', Bool.not_eq_true', decide_eq_false_iff_not, Ev.s1 R, declsGo, spec_DeclsOk.j3]
  by_cases h1 : nameOk y.1 = true
  ·by_cases h2 : 1 ≤ y.2 ∧ y.2 ≤ 4096
   ·rw [if_pos h1, if_neg (by omega), declsOkS_in hl e2 h0 e1 x.toNat 0 (by omega) (by omega), Ev.s1 R]
    simp (disch := omega) only [grd_dec2, e2, wrap64]
    rw [declsOkS_lp hl ys (x + 1) (t + y.2) e3 (by omega) (by omega) (by omega) (fun n => R (n + 1)), Ev.s1 R, take_succ h h0, show (0 : Int).toNat = 0 from rfl, List.drop_zero]
    split
    ·rename_i h3; simp [h1, h2, h3]
    ·rename_i h3; simp only [Bool.not_eq_true] at h3; simp [h1, h2, h3]
   ·rw [if_pos h1, if_pos h2]; simp [h1, h2]
  ·rw [if_neg h1]; simp [h1]
theorem declsOkS_ev {l : List tDecl} (R : Nat → Bool → Prop) : Ev (fun n => spec_DeclsOk.c n l (R n)) ↔ Ev (fun n => R n (declsOk l)) := by
 refine Ev.suc.trans ?_
 simp only [spec_DeclsOk.c, spec_DeclsOk.w, Ev.iteI, decide_eq_true_eq, declsOk]
 by_cases h : l.length ≤ 60
 ·rw [if_neg (by omega), declsOkS_lp h l 0 0 rfl (by omega) (by omega) (by omega) (fun n => R (n + 1)), Ev.s1 R]
  simp [h]
 ·rw [if_pos (by omega), Ev.s1 R]; simp [h]
end Go.Vsi
end

section
set_option linter.unusedVariables false
set_option linter.unusedSimpArgs false
set_option synthInstance.maxSize 4096
namespace Go.Vsi
def nodeW (d : List tDecl) (x : tTNode) (kw : List Int) : Int :=
 if x.1 = 1 ∧ kw.length = 0 ∧ 0 ≤ x.2.1 ∧ x.2.1 ≤ (d.length : Int) - 1 then (rd d x.2.1.toNat).2
 else if x.1 = 2 ∧ kw.length = 0 ∧ bitsOk x.2.2.2.2.1 x.2.2.2.2.2.1 = true then x.2.2.2.2.1
 else if x.1 = 3 ∧ 1 < kw.length then kw.sum
 else if kw.length ≠ 1 then -1
 else if x.1 = 4 ∧ 0 ≤ x.2.2.2.1 ∧ x.2.2.2.1 ≤ x.2.2.1 ∧ x.2.2.1 < rd kw 0 then x.2.2.1 - x.2.2.2.1 + 1
 else if (x.1 = 5 ∨ x.1 = 6) ∧ 0 ≤ x.2.2.1 ∧ x.2.2.1 ≤ 4096 then rd kw 0 + x.2.2.1
 else if (x.1 = 7 ∨ x.1 = 8) ∧ 0 ≤ x.2.2.1 ∧ x.2.2.1 ≤ 4096 then rd kw 0
 else if x.1 = 9 ∧ 1 ≤ x.2.2.1 ∧ x.2.2.1 ≤ 4096 then rd kw 0 * x.2.2.1
 else -1
theorem mulB {a b : Int} (h1 : 0 ≤ a) (h2 : a ≤ 8192) (h3 : 0 ≤ b) (h4 : b ≤ 4096) : 0 ≤ a * b ∧ a * b ≤ 33554432 :=
 ⟨Int.mul_nonneg h1 h3, Int.le_trans (Int.mul_le_mul h2 h4 h3 (by decide)) (by decide)⟩
theorem width_lp {kw : List Int} (hl : kw.length ≤ 4096) (hk : ∀ w ∈ kw, 0 ≤ w ∧ w ≤ 4096) : ∀ (ys : List Int) (x s : Int), kw.drop x.toNat = ys → 0 ≤ x → 0 ≤ s → s ≤ 4096 * x → ∀ (Kx : Nat → Int → Prop),
  (Ev (fun n => impl_TNode_width.l11 n kw kw.length s x (Kx n)) ↔ Ev (fun n => Kx n (s + ys.sum)))
 | [], x, s, h, h0, hs, hs', Kx => by
  have := drop_nil h h0
  refine Ev.suc.trans ?_
  simp (disch := omega) only [impl_TNode_width.l11, impl_TNode_width.l11.b, if_neg, decide_eq_true_eq, Ev.s1 Kx, List.sum_nil, Int.add_zero]
 | y :: ys, x, s, h, h0, hs, hs', Kx => by
  obtain ⟨e1, e2, e3⟩ := drop_cons h h0
  have hy : y ∈ kw := by
   have : y ∈ kw.drop x.toNat := by rw [h]; exact List.mem_cons_self
   exact List.mem_of_mem_drop this
  have hy' := hk y hy
  refine Ev.suc.trans ?_
  simp (disch := omega) only [impl_TNode_width.l11, impl_TNode_width.l11.b, if_pos, decide_eq_true_eq, grd_dec2, e2, wrap64]
  rw [width_lp hl hk ys (x + 1) (s + y) e3 (by omega) (by omega) (by omega), Ev.s1 Kx]
  refine ev_arg ?_
  rw [List.sum_cons]; omega
theorem width_q21 {x : tTNode} {f : Int} {b : Bool} (K : Nat → Int → Prop) (S : Nat → Prop) :
  Ev (fun n => impl_TNode_width.q21 n x f b (K n) (S n)) ↔ if b = true then Ev (fun n => K n (IntKind.wrap .i64 (f + x.2.2.1))) else
   if (x.1 = 7 ∨ x.1 = 8) ∧ 0 ≤ x.2.2.1 ∧ x.2.2.1 ≤ 4096 then Ev (fun n => K n f) else if x.1 = 9 ∧ 1 ≤ x.2.2.1 ∧ x.2.2.1 ≤ 4096 then Ev (fun n => K n (IntKind.wrap .i64 (f * x.2.2.1))) else Ev S := by
 refine Ev.suc.trans ?_
 simp only [impl_TNode_width.q21, impl_TNode_width.q21.b, impl_TNode_width.j0, inside_ev, Ev.iteI, decide_eq_true_eq, decide_eq_false_iff_not, Ev.s1 K, Ev.s0 S, Bool.false_eq_true, if_false]
 (repeat' split) <;> first | rfl | (exfalso; omega)
theorem width_q9 {x : tTNode} {kw : List Int} {b : Bool} (hl : kw.length ≤ 4096) (hk : ∀ w ∈ kw, 0 ≤ w ∧ w ≤ 4096) (hb : b = true ↔ x.1 = 3 ∧ 1 < kw.length) (K : Nat → Int → Prop) (S : Nat → Prop) :
  Ev (fun n => impl_TNode_width.q9 n x kw (rd kw 0) b (K n) (S n)) ↔ if x.1 = 3 ∧ 1 < kw.length then Ev (fun n => K n kw.sum) else if kw.length ≠ 1 then Ev (fun n => K n (-1)) else
   if x.1 = 4 ∧ 0 ≤ x.2.2.2.1 ∧ x.2.2.2.1 ≤ x.2.2.1 ∧ x.2.2.1 < rd kw 0 then Ev (fun n => K n (x.2.2.1 - x.2.2.2.1 + 1))
   else if (x.1 = 5 ∨ x.1 = 6) ∧ 0 ≤ x.2.2.1 ∧ x.2.2.1 ≤ 4096 then Ev (fun n => K n (rd kw 0 + x.2.2.1))
   else if (x.1 = 7 ∨ x.1 = 8) ∧ 0 ≤ x.2.2.1 ∧ x.2.2.1 ≤ 4096 then Ev (fun n => K n (rd kw 0))
   else if x.1 = 9 ∧ 1 ≤ x.2.2.1 ∧ x.2.2.1 ≤ 4096 then Ev (fun n => K n (rd kw 0 * x.2.2.1)) else Ev S := by
 refine Ev.suc.trans ?_
 simp only [impl_TNode_width.q9, impl_TNode_width.q9.b, impl_TNode_width.j1, Ev.iteI, hb]
 by_cases h3 : x.1 = 3 ∧ 1 < kw.length
 ·rw [if_pos h3, if_pos h3, width_lp hl hk kw 0 0 rfl (by omega) (by omega) (by omega), Ev.s1 K, Int.zero_add]
 rw [if_neg h3, if_neg h3]
 by_cases h1 : kw.length = 1
 ·have hf : 0 ≤ rd kw 0 ∧ rd kw 0 ≤ 4096 := by
   match kw, h1, hk with
   | [w], _, hk => exact hk w List.mem_cons_self
  have h1' : (kw.length : Int) = 1 := by omega
  rw [if_neg (c := kw.length ≠ 1) (by omega)]
  simp only [h1', decide_true, Bool.not_true, Bool.false_eq_true, if_false]
  simp only [width_q21, inside_ev, Ev.iteI, decide_eq_true_eq, decide_eq_false_iff_not, Ev.s1 K, Ev.s0 S, Bool.false_eq_true, if_false, ge_iff_le]
  by_cases h4 : x.1 = 4
  ·simp only [h4, true_and, if_true, show ¬ (4 : Int) = 5 from by decide, show ¬ (4 : Int) = 6 from by decide, show ¬ (4 : Int) = 7 from by decide, show ¬ (4 : Int) = 8 from by decide, show ¬ (4 : Int) = 9 from by decide, or_self, false_and, if_false, not_false_eq_true]
   by_cases g1 : 0 ≤ x.2.2.2.1
   ·by_cases g2 : x.2.2.2.1 ≤ x.2.2.1
    ·by_cases g3 : x.2.2.1 < rd kw 0
     ·simp (disch := omega) only [g1, g2, g3, and_self, if_true, wrap64, decide_true]
     ·simp only [g1, g2, g3, and_false, if_true, if_false, decide_false, Bool.false_eq_true]
    ·simp only [g1, g2, false_and, and_false, if_true, if_false]
   ·simp only [g1, false_and, if_false]
  ·simp only [h4, false_and, if_false]
   by_cases h5 : (x.1 = 5 ∨ x.1 = 6) ∧ 0 ≤ x.2.2.1 ∧ x.2.2.1 ≤ 4096
   ·have e : IntKind.wrap .i64 (rd kw 0 + x.2.2.1) = rd kw 0 + x.2.2.1 := wrap64 (by omega) (by omega)
    rw [if_pos h5, e]
    rcases h5 with ⟨h5 | h5, h6⟩
    ·simp only [h5, h6, not_true, if_false, if_true, and_self]
    ·simp only [h5, h6, show ¬ (6 : Int) = 5 from by decide, not_false_eq_true, if_true, and_self]
   ·rw [if_neg h5]
    have e : 1 ≤ x.2.2.1 ∧ x.2.2.1 ≤ 4096 → IntKind.wrap .i64 (rd kw 0 * x.2.2.1) = rd kw 0 * x.2.2.1 := fun h => by
     have := mulB hf.1 (by omega) (show 0 ≤ x.2.2.1 by omega) h.2
     exact wrap64 (by omega) (by omega)
    (repeat' split) <;> first | rfl | (exfalso; omega) | (exfalso; simp_all; done) | (rw [e (by omega)])
 ·have h1' : ¬ (kw.length : Int) = 1 := by omega
  simp only [h1, h1', ne_eq, not_false_eq_true, if_true, decide_false, Bool.not_false, Ev.s1 K]
theorem width_q5 {x : tTNode} {d : List tDecl} {kw : List Int} {b : Bool} (hl : kw.length ≤ 4096) (hk : ∀ w ∈ kw, 0 ≤ w ∧ w ≤ 4096) (hb : b = true ↔ x.1 = 1 ∧ kw.length = 0 ∧ 0 ≤ x.2.1 ∧ x.2.1 ≤ (d.length : Int) - 1) (R : Nat → Int → Prop) :
  Ev (fun n => impl_TNode_width.q5 n x d kw (rd kw 0) b (R n) (R n (-1))) ↔ Ev (fun n => R n (nodeW d x kw)) := by
 refine Ev.suc.trans ?_
 simp only [impl_TNode_width.q5, impl_TNode_width.q5.b, impl_TNode_width.j2, Ev.iteI, nodeW]
 by_cases h1 : x.1 = 1 ∧ kw.length = 0 ∧ 0 ≤ x.2.1 ∧ x.2.1 ≤ (d.length : Int) - 1
 ·simp (disch := omega) only [hb.2 h1, if_true, grd_dec2, Ev.s1 R]
  rw [if_pos h1]
 have hb' : ¬ b = true := fun h => h1 (hb.1 h)
 rw [if_neg hb', if_neg h1]
 have q9 : ∀ (c : Bool), (c = true ↔ x.1 = 3 ∧ 1 < kw.length) → ((Ev fun n => impl_TNode_width.q9 n x kw (rd kw 0) c (R (n + 1)) (R (n + 1) (-1))) ↔ Ev (fun n => R n (if x.1 = 3 ∧ 1 < kw.length then kw.sum
   else if kw.length ≠ 1 then -1
   else if x.1 = 4 ∧ 0 ≤ x.2.2.2.1 ∧ x.2.2.2.1 ≤ x.2.2.1 ∧ x.2.2.1 < rd kw 0 then x.2.2.1 - x.2.2.2.1 + 1
   else if (x.1 = 5 ∨ x.1 = 6) ∧ 0 ≤ x.2.2.1 ∧ x.2.2.1 ≤ 4096 then rd kw 0 + x.2.2.1
   else if (x.1 = 7 ∨ x.1 = 8) ∧ 0 ≤ x.2.2.1 ∧ x.2.2.1 ≤ 4096 then rd kw 0
   else if x.1 = 9 ∧ 1 ≤ x.2.2.1 ∧ x.2.2.1 ≤ 4096 then rd kw 0 * x.2.2.1
   else -1))) := fun c hc => by
  rw [width_q9 hl hk hc (fun n => R (n + 1)) (fun n => R (n + 1) (-1))]
  simp only [Ev.s1 R]
  (repeat' split) <;> first | rfl | (exfalso; omega)
 simp only [decide_eq_true_eq, Bool.false_eq_true, if_false, implOk_ev, Ev.iteI, Ev.s1 R]
 have f3 : ¬ (x.1 = 3 ∧ 1 < kw.length) → (false = true ↔ x.1 = 3 ∧ 1 < kw.length) := fun h => iff_of_false Bool.false_ne_true h
 by_cases h2 : x.1 = 2
 ·have h3 : ¬ x.1 = 3 := by omega
  have h3' : ¬ (x.1 = 3 ∧ 1 < kw.length) := by omega
  rw [if_pos h2]
  by_cases h4 : kw.length = 0
  ·have h4' : (kw.length : Int) = 0 := by omega
   rw [if_pos h4']
   by_cases h5 : bitsOk x.2.2.2.2.1 x.2.2.2.2.2.1 = true
   ·rw [if_pos h5, if_pos ⟨h2, h4, h5⟩]
   ·rw [if_neg h5, if_neg h3, q9 false (f3 h3'), if_neg (c := x.1 = 2 ∧ kw.length = 0 ∧ bitsOk x.2.2.2.2.1 x.2.2.2.2.2.1 = true) (fun h => h5 h.2.2)]
  ·have h4' : ¬ (kw.length : Int) = 0 := by omega
   rw [if_neg h4', if_neg h3, q9 false (f3 h3'), if_neg (c := x.1 = 2 ∧ kw.length = 0 ∧ bitsOk x.2.2.2.2.1 x.2.2.2.2.2.1 = true) (fun h => h4 h.2.1)]
 ·rw [if_neg h2, if_neg (c := x.1 = 2 ∧ kw.length = 0 ∧ bitsOk x.2.2.2.2.1 x.2.2.2.2.2.1 = true) (fun h => h2 h.1)]
  by_cases h3 : x.1 = 3
  ·rw [if_pos h3, q9 _ (by rw [decide_eq_true_eq]; omega)]
  ·rw [if_neg h3, q9 false (f3 (fun h => h3 h.1))]
theorem width_ev {x : tTNode} {d : List tDecl} {kw : List Int} (hd : d.length ≤ 1099511627776) (hl : kw.length ≤ 4096) (hk : ∀ w ∈ kw, 0 ≤ w ∧ w ≤ 4096) (R : Nat → Int → Prop) :
  Ev (fun n => impl_TNode_width.c n x d kw (R n)) ↔ Ev (fun n => R n (nodeW d x kw)) := by
 refine Ev.suc.trans ?_
 have key : ∀ (f : Int), f = rd kw 0 → ((Ev fun n => impl_TNode_width.j3 (R (n + 1)) x d kw (impl_TNode_width.q5 n) n f) ↔ Ev (fun n => R n (nodeW d x kw))) := by
  rintro f rfl
  simp (disch := omega) only [impl_TNode_width.j3, Ev.iteI, decide_eq_true_eq, inside_ev, wrap64]
  by_cases h1 : x.1 = 1
  ·by_cases h2 : (kw.length : Int) = 0
   ·rw [if_pos h1, if_pos h2, width_q5 hl hk (by rw [decide_eq_true_eq]; omega) (fun n => R (n + 1)), Ev.s1 R]
   ·rw [if_pos h1, if_neg h2, width_q5 hl hk (iff_of_false Bool.false_ne_true (by omega)) (fun n => R (n + 1)), Ev.s1 R]
  ·rw [if_neg h1, width_q5 hl hk (iff_of_false Bool.false_ne_true (by omega)) (fun n => R (n + 1)), Ev.s1 R]
 simp only [impl_TNode_width.c, impl_TNode_width.w, Ev.iteI, decide_eq_true_eq]
 by_cases h : (kw.length : Int) > 0
 ·rw [if_pos h]
  simp (disch := omega) only [grd_dec]
  exact key _ rfl
 ·rw [if_neg h]
  refine key 0 ?_
  match kw, h with
  | [], _ => rfl
  | _ :: _, h => simp at h
end Go.Vsi
end

section
set_option linter.unusedVariables false
set_option linter.unusedSimpArgs false
set_option synthInstance.maxSize 4096
namespace Go.Vsi
def plainB (x : tTNode) : Bool := decide (((4 ≤ x.1 ∧ x.1 ≤ 9) ∨ x.2.2.1 = 0) ∧ (x.1 = 4 ∨ x.2.2.2.1 = 0) ∧ (x.1 = 1 ∨ x.2.1 = 0) ∧ (x.1 = 2 ∨ (x.2.2.2.2.1 = 0 ∧ x.2.2.2.2.2.1.length = 0)))
theorem plain_q3 {x : tTNode} {b : Bool} (R : Nat → Bool → Prop) (S : Nat → tTNode → Prop) :
  Ev (fun n => impl_TNode_plain.q3 n x b (R n) (S n)) ↔ if b = true then Ev (fun n => R n false) else Ev (fun n => S n x) := by
 refine Ev.suc.trans ?_
 simp only [impl_TNode_plain.q3, impl_TNode_plain.q3.b, Ev.iteI, Ev.s1 R, Ev.s1 S]
theorem plain_q2 {x : tTNode} {b : Bool} (hb : b = true ↔ (4 ≤ x.1 ∧ x.1 ≤ 9)) (R : Nat → Bool → Prop) :
  Ev (fun n => impl_TNode_plain.q2 n x b (R n)) ↔ Ev (fun n => R n (plainB x)) := by
 refine Ev.suc.trans ?_
 have hb' : b = false ↔ ¬ (4 ≤ x.1 ∧ x.1 ≤ 9) := by rw [← hb]; simp
 simp only [impl_TNode_plain.q2, impl_TNode_plain.q2.b, impl_TNode_plain.j0, plain_q3, Ev.iteI, Ev.s1 R, Bool.not_eq_true', Bool.not_eq_false', decide_eq_true_eq, decide_eq_false_iff_not, Bool.false_eq_true, if_false, if_true, hb']
 (repeat' split) <;> first
  | (refine ev_arg ?_; symm; rw [plainB, decide_eq_false_iff_not]; omega)
  | (refine ev_arg ?_; symm; rw [plainB, decide_eq_true_eq]; omega)
  | (refine ev_arg ?_; rw [plainB, decide_eq_decide]; omega)
theorem plain_ev {x : tTNode} (R : Nat → Bool → Prop) : Ev (fun n => impl_TNode_plain.c n x (R n)) ↔ Ev (fun n => R n (plainB x)) := by
 refine Ev.suc.trans ?_
 simp only [impl_TNode_plain.c, impl_TNode_plain.w, Ev.iteI, decide_eq_true_eq, ge_iff_le]
 split
 ·rename_i h; rw [plain_q2 (by rw [decide_eq_true_eq]; omega) (fun n => R (n + 1)), Ev.s1 R]
 ·rename_i h; rw [plain_q2 (by simp; omega) (fun n => R (n + 1)), Ev.s1 R]
def kidsIn (i : Int) (ks : List Int) : Bool := ks.all fun k => decide (0 ≤ k ∧ k ≤ i - 1)
theorem kidsIn_cons {i y : Int} {ys : List Int} : kidsIn i (y :: ys) = true ↔ (0 ≤ y ∧ y ≤ i - 1) ∧ kidsIn i ys = true := by
 rw [kidsIn, kidsIn, List.all_cons, Bool.and_eq_true, decide_eq_true_eq]
def kindB (d : List tDecl) (x : tTNode) : Bool := decide ((x.1 = 1 ∧ x.2.2.2.2.2.2.length = 0 ∧ 0 ≤ x.2.1 ∧ x.2.1 ≤ (d.length : Int) - 1) ∨ (x.1 = 2 ∧ x.2.2.2.2.2.2.length = 0 ∧ bitsOk x.2.2.2.2.1 x.2.2.2.2.2.1 = true) ∨ (x.1 = 3 ∧ 2 ≤ x.2.2.2.2.2.2.length) ∨ (4 ≤ x.1 ∧ x.1 ≤ 9 ∧ x.2.2.2.2.2.2.length = 1))
theorem noBits_ev {a : Int} {l : List Int} (R : Nat → Bool → Prop) : Ev (fun n => spec_l3NoBits.c n a l (R n)) ↔ Ev (fun n => R n (decide (a = 0 ∧ l.length = 0))) := by
 refine Ev.suc.trans ?_
 simp only [spec_l3NoBits.c, spec_l3NoBits.w, Ev.iteI, decide_eq_true_eq, Ev.s1 R]
 split
 ·refine ev_arg ?_; rw [decide_eq_decide]; omega
 ·refine ev_arg ?_; symm; rw [decide_eq_false_iff_not]; omega
theorem l3One_ev {a : Int} (R : Nat → Bool → Prop) : Ev (fun n => spec_l3One.c n a (R n)) ↔ Ev (fun n => R n (decide (4 ≤ a ∧ a ≤ 9))) := by
 refine Ev.suc.trans ?_
 simp only [spec_l3One.c, spec_l3One.w, l1In_ev, Ev.s1 R]
theorem form_lp {d : List tDecl} {i a b c e f : Int} {w ks : List Int} (hl : ks.length ≤ 1099511627776) (hi0 : 0 ≤ i) (hi : i ≤ 1048576) : ∀ (ys : List Int) (x : Int), ks.drop x.toNat = ys → 0 ≤ x →
  ∀ (Kx : Nat → List tDecl → Int → Int → Int → Int → Int → List Int → List Int → Prop) (Kr : Nat → Bool → Prop),
  (Ev (fun n => spec_l3Form.l2 n d i a b c e f w ks x (Kx n) (Kr n)) ↔ if kidsIn i ys = true then Ev (fun n => Kx n d a b c e f w ks) else Ev (fun n => Kr n false))
 | [], x, h, h0, Kx, Kr => by
  have := drop_nil h h0
  refine Ev.suc.trans ?_
  simp (disch := omega) only [spec_l3Form.l2, spec_l3Form.l2.b, if_neg, decide_eq_true_eq, Ev.s8 Kx, kidsIn, List.all_nil, if_true]
 | y :: ys, x, h, h0, Kx, Kr => by
  obtain ⟨e1, e2, e3⟩ := drop_cons h h0
  refine Ev.suc.trans ?_
  simp (disch := omega) only [spec_l3Form.l2, spec_l3Form.l2.b, if_pos, decide_eq_true_eq, decide_eq_false_iff_not, Bool.not_eq_true', grd_dec2, e2, wrap64, l1In_ev, Ev.iteI, Ev.s1 Kr]
  rw [form_lp hl hi0 hi ys (x + 1) e3 (by omega), Ev.s1 Kr, Ev.s8 Kx]
  simp only [kidsIn_cons]
  by_cases h1 : 0 ≤ y ∧ y ≤ i - 1
  ·rw [if_neg (fun h => h h1)]
   simp only [h1, true_and, and_self]
  ·rw [if_pos h1, if_neg (fun h => h1 h.1)]
theorem form_q7 {d : List tDecl} {g : Bool} {a b c e f : Int} {w ks : List Int} (R : Nat → Bool → Prop) (S : Nat → List tDecl → Int → Int → Int → Int → Int → List Int → List Int → Prop) :
  Ev (fun n => spec_l3Form.q7 n d g a b c e f w ks (R n) (S n)) ↔ if g = true then Ev (fun n => R n false) else Ev (fun n => S n d a b c e f w ks) := by
 refine Ev.suc.trans ?_
 simp only [spec_l3Form.q7, spec_l3Form.q7.b, Ev.iteI, Ev.s1 R, Ev.s8 S]
theorem form_q8 {d : List tDecl} {a b c e f : Int} {w ks : List Int} (hd : d.length ≤ 1099511627776) (hw : Wd w) (R : Nat → Bool → Prop) :
  Ev (fun n => spec_l3Form.q8 n d a b c e f w ks (R n)) ↔ Ev (fun n => R n (kindB d (a, b, c, e, f, w, ks))) := by
 refine Ev.suc.trans ?_
 simp (disch := first | assumption | omega) only [spec_l3Form.q8, spec_l3Form.q8.b, Ev.iteI, decide_eq_true_eq, l1In_ev, l3One_ev, specOk_ev, wrap64, Ev.s1 R]
 have key : ∀ (b' : Bool), (b' = true ↔ kindB d (a, b, c, e, f, w, ks) = true) → ((Ev fun n => R n b') ↔ Ev fun n => R n (kindB d (a, b, c, e, f, w, ks))) := fun b' h => by
  rw [Bool.eq_iff_iff.2 h]
 simp only [kindB, decide_eq_true_eq] at key
 (repeat' split) <;> refine key _ ?_ <;> first
  | (simp only [decide_eq_true_eq, Bool.false_eq_true, false_iff]; omega)
  | (simp only [decide_eq_true_eq, Bool.false_eq_true, false_iff]; constructor <;> intro h <;> simp_all <;> omega)
  | (simp_all; done) | (simp_all; omega)
theorem form_ev {d : List tDecl} {i a b c e f : Int} {w ks : List Int} (hd : d.length ≤ 1099511627776) (hw : Wd w) (hl : ks.length ≤ 1099511627776) (hi0 : 0 ≤ i) (hi : i ≤ 1048576) (R : Nat → Bool → Prop) :
  Ev (fun n => spec_l3Form.c n d a b c e f w ks i (R n)) ↔ Ev (fun n => R n (kidsIn i ks && plainB (a, b, c, e, f, w, ks) && kindB d (a, b, c, e, f, w, ks))) := by
 refine Ev.suc.trans ?_
 simp only [spec_l3Form.c, spec_l3Form.w]
 rw [form_lp hl hi0 hi ks 0 rfl (by omega)]
 by_cases hk : kidsIn i ks = true
 ·rw [if_pos hk, hk, Bool.true_and]
  simp only [Ev.iteI, Bool.not_eq_true', Bool.not_eq_false', decide_eq_true_eq, decide_eq_false_iff_not, noBits_ev, l3One_ev, form_q7, form_q8 hd hw, Ev.s1 R, Bool.false_eq_true, if_false, if_true]
  have T : plainB (a, b, c, e, f, w, ks) = true → ((Ev fun n => R n (kindB d (a, b, c, e, f, w, ks))) ↔ Ev fun n => R n (plainB (a, b, c, e, f, w, ks) && kindB d (a, b, c, e, f, w, ks))) := fun h => by rw [h, Bool.true_and]
  have F : plainB (a, b, c, e, f, w, ks) = false → ((Ev fun n => R n false) ↔ Ev fun n => R n (plainB (a, b, c, e, f, w, ks) && kindB d (a, b, c, e, f, w, ks))) := fun h => by rw [h, Bool.false_and]
  simp only [plainB, decide_eq_true_eq, decide_eq_false_iff_not] at T F
  (repeat' split) <;> first
   | (refine T ?_; omega)
   | (refine F ?_; omega)
 ·rw [if_neg hk, show kidsIn i ks = false from by simpa using hk, Bool.false_and, Bool.false_and, Ev.s1 R]
end Go.Vsi
end

section
set_option linter.unusedVariables false
set_option linter.unusedSimpArgs false
set_option synthInstance.maxSize 4096
namespace Go.Vsi
def WOk (l : List Int) : Prop := ∀ w ∈ l, 1 ≤ w ∧ w ≤ 4096
theorem WOk.cons {y : Int} {r : List Int} (h : WOk (y :: r)) : (1 ≤ y ∧ y ≤ 4096) ∧ WOk r := ⟨h y List.mem_cons_self, fun w hw => h w (List.mem_cons_of_mem _ hw)⟩
def capSum (s : Int) : List Int → Int
 | [] => s
 | y :: r => capSum (if s + y < 8192 then s + y else 8192) r
theorem sum_ge : ∀ {l : List Int}, WOk l → (l.length : Int) ≤ l.sum
 | [], _ => by simp
 | y :: r, h => by
  have := sum_ge h.cons.2
  have := h.cons.1
  rw [List.sum_cons, List.length_cons]; omega
theorem capSum_big : ∀ {r : List Int}, WOk r → capSum 8192 r = 8192
 | [], _ => rfl
 | y :: r, h => by
  have := h.cons.1
  rw [capSum, if_neg (by omega), capSum_big h.cons.2]
theorem capSum_eq : ∀ {l : List Int} {s : Int}, 0 ≤ s → s ≤ 8192 → WOk l → capSum s l = if s + l.sum < 8192 then s + l.sum else 8192
 | [], s, h0, h1, hw => by
  rw [capSum, List.sum_nil]; split <;> omega
 | y :: r, s, h0, h1, hw => by
  have hy := hw.cons.1
  have hr := hw.cons.2
  have hs := sum_ge hr
  rw [capSum, List.sum_cons]
  by_cases h : s + y < 8192
  ·rw [if_pos h, capSum_eq (by omega) (by omega) hr]
   simp only [Int.add_assoc]
  ·rw [if_neg h, capSum_big hr, if_neg (by omega)]
def acc (w : Int) : Option Int := if 1 ≤ w ∧ w ≤ 4096 then some w else none
def specW (d : List tDecl) (x : tTNode) (s : Int) : Int :=
 if x.1 = 1 then (rd d x.2.1.toNat).2
 else if x.1 = 2 then x.2.2.2.2.1
 else if x.1 = 4 then (if x.2.2.2.1 < 0 ∨ x.2.2.1 < x.2.2.2.1 ∨ x.2.2.1 ≥ s then -1 else x.2.2.1 - x.2.2.2.1 + 1)
 else if x.1 = 5 ∨ x.1 = 6 then (if 0 ≤ x.2.2.1 ∧ x.2.2.1 ≤ 4096 then s + x.2.2.1 else -1)
 else if x.1 = 7 ∨ x.1 = 8 then (if 0 ≤ x.2.2.1 ∧ x.2.2.1 ≤ 4096 then s else -1)
 else if x.1 = 9 then (if 1 ≤ x.2.2.1 ∧ x.2.2.1 ≤ 4096 then s * x.2.2.1 else -1)
 else s
theorem node_one {d : List tDecl} {x : tTNode} {w : Int} (h1 : 4 ≤ x.1) (h2 : x.1 ≤ 9) : nodeW d x [w] = specW d x w := by
 have e : rd [w] 0 = w := rfl
 have e1 : [w].length = 1 := rfl
 rw [nodeW, e, e1, if_neg (by omega), if_neg (by omega), if_neg (by omega), if_neg (by omega), specW, if_neg (c := x.1 = 1) (by omega), if_neg (c := x.1 = 2) (by omega)]
 have h : x.1 = 4 ∨ x.1 = 5 ∨ x.1 = 6 ∨ x.1 = 7 ∨ x.1 = 8 ∨ x.1 = 9 := by omega
 rcases h with h | h | h | h | h | h
 ·rw [if_pos (c := x.1 = 4) h]
  by_cases c : 0 ≤ x.2.2.2.1 ∧ x.2.2.2.1 ≤ x.2.2.1 ∧ x.2.2.1 < w
  ·rw [if_pos ⟨h, c⟩, if_neg (by omega)]
  ·rw [if_neg (fun hh => c hh.2), if_neg (by omega), if_neg (by omega), if_neg (by omega), if_pos (by omega)]
 all_goals
  rw [if_neg (c := x.1 = 4) (by omega), if_neg (by omega)]
 ·rw [if_pos (c := x.1 = 5 ∨ x.1 = 6) (by omega)]
  by_cases c : 0 ≤ x.2.2.1 ∧ x.2.2.1 ≤ 4096
  ·rw [if_pos ⟨Or.inl h, c⟩, if_pos c]
  ·rw [if_neg (fun hh => c hh.2), if_neg (by omega), if_neg (by omega), if_neg c]
 ·rw [if_pos (c := x.1 = 5 ∨ x.1 = 6) (by omega)]
  by_cases c : 0 ≤ x.2.2.1 ∧ x.2.2.1 ≤ 4096
  ·rw [if_pos ⟨Or.inr h, c⟩, if_pos c]
  ·rw [if_neg (fun hh => c hh.2), if_neg (by omega), if_neg (by omega), if_neg c]
 ·rw [if_neg (c := x.1 = 5 ∨ x.1 = 6) (by omega), if_neg (by omega), if_pos (c := x.1 = 7 ∨ x.1 = 8) (by omega)]
  by_cases c : 0 ≤ x.2.2.1 ∧ x.2.2.1 ≤ 4096
  ·rw [if_pos ⟨Or.inl h, c⟩, if_pos c]
  ·rw [if_neg (fun hh => c hh.2), if_neg (by omega), if_neg c]
 ·rw [if_neg (c := x.1 = 5 ∨ x.1 = 6) (by omega), if_neg (by omega), if_pos (c := x.1 = 7 ∨ x.1 = 8) (by omega)]
  by_cases c : 0 ≤ x.2.2.1 ∧ x.2.2.1 ≤ 4096
  ·rw [if_pos ⟨Or.inr h, c⟩, if_pos c]
  ·rw [if_neg (fun hh => c hh.2), if_neg (by omega), if_neg c]
 ·rw [if_neg (c := x.1 = 5 ∨ x.1 = 6) (by omega), if_neg (by omega), if_neg (by omega), if_neg (c := x.1 = 7 ∨ x.1 = 8) (by omega), if_pos (c := x.1 = 9) h]
  by_cases c : 1 ≤ x.2.2.1 ∧ x.2.2.1 ≤ 4096
  ·rw [if_pos ⟨h, c⟩, if_pos c]
  ·rw [if_neg (fun hh => c hh.2), if_neg c]
theorem step_eq {d : List tDecl} {x : tTNode} {kw : List Int} (hw : WOk kw) (hl : kw.length = x.2.2.2.2.2.2.length) :
  (if x.2.2.2.2.2.2.length ≤ 4096 then acc (nodeW d x kw) else none) = if kindB d x = true then acc (specW d x (capSum 0 kw)) else none := by
 rw [← hl]
 rw [capSum_eq (by omega) (by omega) hw, Int.zero_add]
 have hs := sum_ge hw
 by_cases hk : kindB d x = true
 ·rw [if_pos hk]
  rw [kindB, decide_eq_true_eq, ← hl] at hk
  rcases hk with ⟨h1, h2, h3, h4⟩ | ⟨h1, h2, h3⟩ | ⟨h1, h2⟩ | ⟨h1, h2, h3⟩
  ·rw [if_pos (by omega), nodeW, if_pos ⟨h1, h2, h3, h4⟩, specW, if_pos h1]
  ·rw [if_pos (by omega), nodeW, if_neg (by omega), if_pos ⟨h1, h2, h3⟩, specW, if_neg (by omega), if_pos h1]
  ·have hn : nodeW d x kw = kw.sum := by rw [nodeW, if_neg (by omega), if_neg (by omega), if_pos (by omega)]
   have hq : ∀ s, specW d x s = s := fun s => by rw [specW, if_neg (by omega), if_neg (by omega), if_neg (by omega), if_neg (by omega), if_neg (by omega), if_neg (by omega)]
   rw [hn, hq]
   unfold acc
   (repeat' split) <;> first | rfl | (exfalso; omega)
  ·rw [if_pos (by omega)]
   match kw, h3, hw with
   | [w], _, hw =>
    have h := hw w List.mem_cons_self
    have hs : (if [w].sum < 8192 then [w].sum else 8192) = w := by
     simp only [List.sum_cons, List.sum_nil, Int.add_zero]; rw [if_pos (by omega)]
    rw [hs]
    have hn := node_one (d := d) (x := x) (w := w) h1 h2
    rw [hn]
 ·rw [if_neg hk]
  rw [kindB, decide_eq_true_eq, ← hl] at hk
  have : nodeW d x kw = -1 := by
   rw [nodeW, if_neg (by omega), if_neg (by rintro ⟨h1, h2, h3⟩; exact hk (Or.inr (Or.inl ⟨h1, h2, h3⟩))), if_neg (by omega)]
   by_cases h1 : kw.length ≠ 1
   ·rw [if_pos h1]
   ·rw [if_neg h1, if_neg (by omega), if_neg (by omega), if_neg (by omega), if_neg (by omega)]
  rw [this]
  split <;> rfl
def stepW (d : List tDecl) (x : tTNode) (wide : List Int) : Option Int :=
 if kidsIn wide.length x.2.2.2.2.2.2 = true ∧ plainB x = true ∧ kindB d x = true then acc (specW d x (capSum 0 (x.2.2.2.2.2.2.map fun k => rd wide k.toNat))) else none
def setAll (u : List Bool) : List Int → List Bool
 | [] => u
 | k :: r => setAll (u.set k.toNat true) r
theorem setAll_len : ∀ {ks : List Int} {u : List Bool}, (setAll u ks).length = u.length
 | [], u => rfl
 | k :: r, u => by rw [setAll, setAll_len, List.length_set]
def widthsGo (d : List tDecl) : List tTNode → List Int → List Bool → Option (List Int × List Bool)
 | [], wide, used => some (wide, used)
 | x :: r, wide, used => match stepW d x wide with
  | some w => widthsGo d r (wide ++ [w]) (setAll used x.2.2.2.2.2.2)
  | none => none
theorem rd_mem {l : List Int} {k : Int} (h0 : 0 ≤ k) (h1 : k < (l.length : Int)) : rd l k.toNat ∈ l := by
 rw [rd, List.getD_eq_getElem?_getD, List.getElem?_eq_getElem (by omega)]
 exact List.getElem_mem _
theorem rd_app {α : Type} [Inhabited α] {a b : List α} {k : Nat} (h : k < a.length) : rd (a ++ b) k = rd a k := by
 rw [rd, rd, List.getD_eq_getElem?_getD, List.getD_eq_getElem?_getD, List.getElem?_append_left h]
theorem kids_wok {wide ks : List Int} (hw : WOk wide) (hk : kidsIn wide.length ks = true) : WOk (ks.map fun k => rd wide k.toNat) := by
 intro w hw'
 obtain ⟨k, hk', rfl⟩ := List.mem_map.1 hw'
 rw [kidsIn, List.all_eq_true] at hk
 have := hk k hk'
 rw [decide_eq_true_eq] at this
 exact hw _ (rd_mem this.1 (by omega))
theorem acc_some {w v : Int} (h : acc w = some v) : v = w ∧ 1 ≤ w ∧ w ≤ 4096 := by
 unfold acc at h
 split at h
 ·rename_i hh; cases h; exact ⟨rfl, hh⟩
 ·cases h
theorem stepW_ok {d : List tDecl} {x : tTNode} {wide : List Int} {w : Int} (h : stepW d x wide = some w) : 1 ≤ w ∧ w ≤ 4096 := by
 unfold stepW at h
 split at h
 ·obtain ⟨rfl, h1⟩ := acc_some h; exact h1
 ·cases h
theorem WOk.app {wide : List Int} {w : Int} (h : WOk wide) (hw : 1 ≤ w ∧ w ≤ 4096) : WOk (wide ++ [w]) := by
 intro v hv
 rcases List.mem_append.1 hv with hv | hv
 ·exact h v hv
 ·rw [List.mem_singleton] at hv; subst hv; exact hw
theorem widthsGo_ok {d : List tDecl} : ∀ {ys : List tTNode} {wide : List Int} {used : List Bool} {r : List Int × List Bool}, WOk wide → widthsGo d ys wide used = some r → WOk r.1 ∧ r.1.length = wide.length + ys.length ∧ r.2.length = used.length
 | [], wide, used, r, hw, h => by
  rw [widthsGo] at h; cases h; exact ⟨hw, rfl, rfl⟩
 | x :: ys, wide, used, r, hw, h => by
  rw [widthsGo] at h
  cases hs : stepW d x wide with
  | none => rw [hs] at h; cases h
  | some w =>
   rw [hs] at h
   obtain ⟨h1, h2, h3⟩ := widthsGo_ok (hw.app (stepW_ok hs)) h
   refine ⟨h1, ?_, ?_⟩
   ·rw [h2]; simp; omega
   ·rw [h3, setAll_len]
theorem kids_lp {d : List tDecl} {m i a b : Int} {x : tTNode} {ks out : List Int} {nodes : List tTNode} (hl : ks.length ≤ 4096) (hi0 : 0 ≤ i) (hi : i ≤ (out.length : Int)) (hi' : i ≤ 1048576) : ∀ (ys : List Int) (j : Int) (used : List Bool) (kw : List Int), ks.drop j.toNat = ys → 0 ≤ j → i ≤ (used.length : Int) → kw.length = ks.length →
  ∀ (Kx : Nat → List tDecl → Int → Int → tTNode → Int → Int → List Int → List Bool → List Int → List tTNode → Prop) (Kr : Nat → Bool → List Int → Prop),
  (Ev (fun n => impl_widths.l13 n d m i x a b ks ks.length out nodes j used kw (Kx n) (Kr n)) ↔
   if kidsIn i ys = true then Ev (fun n => Kx n d m i x a b out (setAll used ys) (kw.take j.toNat ++ ys.map fun k => rd out k.toNat) nodes) else Ev (fun n => Kr n false []))
 | [], j, used, kw, h, h0, hu, hkw, Kx, Kr => by
  have := drop_nil h h0
  refine Ev.suc.trans ?_
  simp (disch := omega) only [impl_widths.l13, impl_widths.l13.b, if_neg, decide_eq_true_eq, Ev.s10 Kx, kidsIn, List.all_nil, if_true, setAll, List.map_nil, List.append_nil]
  rw [List.take_of_length_le (by omega)]
 | y :: ys, j, used, kw, h, h0, hu, hkw, Kx, Kr => by
  obtain ⟨e1, e2, e3⟩ := drop_cons h h0
  refine Ev.suc.trans ?_
  simp (disch := omega) only [impl_widths.l13, impl_widths.l13.b, if_pos, decide_eq_true_eq, decide_eq_false_iff_not, Bool.not_eq_true', grd_dec2, e2, wrap64, inside_ev, Ev.iteI, Ev.s2 Kr]
  by_cases h1 : 0 ≤ y ∧ y ≤ i - 1
  ·rw [if_neg (fun h => h h1)]
   rw [kids_lp hl hi0 hi hi' ys (j + 1) _ _ e3 (by omega) (by simpa using hu) (by simpa using hkw), Ev.s10 Kx, Ev.s2 Kr, take_set (by omega) (by omega)]
   simp only [kidsIn_cons, h1, and_self, true_and, setAll, List.map_cons, List.append_assoc, List.singleton_append]
  ·rw [if_pos h1, if_neg]
   rw [kidsIn_cons]
   exact fun h => h1 h.1
theorem widths_lp {d : List tDecl} {t : List tTNode} (hd : d.length ≤ 1099511627776) (ht : t.length ≤ 400) : ∀ (ys : List tTNode) (wide z : List Int) (used : List Bool), t.drop wide.length = ys → (wide ++ z).length = t.length → used.length = t.length → WOk wide →
  ∀ (Kx : Nat → Int → List Int → List Bool → Prop) (Kr : Nat → Bool → List Int → Prop),
  (Ev (fun n => impl_widths.l6 n d t.length t.length wide.length (wide ++ z) used t (Kx n) (Kr n)) ↔ match widthsGo d ys wide used with
   | some r => Ev (fun n => Kx n t.length r.1 r.2)
   | none => Ev (fun n => Kr n false []))
 | [], wide, z, used, h, hz, hu, hw, Kx, Kr => by
  have hle := List.drop_eq_nil_iff.1 h
  have hz0 : z = [] := by
   rw [List.length_append] at hz
   exact List.eq_nil_of_length_eq_zero (by omega)
  subst hz0
  refine Ev.suc.trans ?_
  simp (disch := omega) only [impl_widths.l6, impl_widths.l6.b, if_neg, decide_eq_true_eq, Ev.s3 Kx, widthsGo, List.append_nil]
 | x :: ys, wide, z, used, h, hz, hu, hw, Kx, Kr => by
  have h' : t.drop (wide.length : Int).toNat = x :: ys := h
  obtain ⟨e1, e2, e3⟩ := drop_cons h' (by omega)
  have e2' : rd t wide.length = x := e2
  rw [List.length_append] at hz
  refine Ev.suc.trans ?_
  simp (disch := omega) only [impl_widths.l6, impl_widths.l6.b, if_pos, decide_eq_true_eq, Ev.iteI, grd_dec2, Int.toNat_natCast, e2', Ev.s2 Kr]
  rw [widthsGo]
  have hse := step_eq (d := d) (x := x) (kw := x.2.2.2.2.2.2.map fun k => rd wide k.toNat)
  by_cases hk : x.2.2.2.2.2.2.length ≤ 4096
  ·rw [if_neg (by omega)]
   simp (disch := omega) only [grd_dec2, decide_true, Bool.and_true]
   rw [kids_lp hk (by omega) (by rw [List.length_append]; omega) (by omega) x.2.2.2.2.2.2 0 _ _ rfl (by omega) (by omega) (by simp), Ev.s2 Kr]
   by_cases hin : kidsIn wide.length x.2.2.2.2.2.2 = true
   ·rw [if_pos hin]
    have hwk := kids_wok hw hin
    have hmap : (x.2.2.2.2.2.2.map fun k => rd (wide ++ z) k.toNat) = x.2.2.2.2.2.2.map fun k => rd wide k.toNat := by
     apply List.map_congr_left
     intro k hk'
     rw [kidsIn, List.all_eq_true] at hin
     have := hin k hk'
     rw [decide_eq_true_eq] at this
     exact rd_app (by omega)
    have hse := hse hwk (by simp)
    rw [if_pos hk] at hse
    simp only [Int.toNat_zero, List.take_zero, List.nil_append, hmap]
    simp (disch := first | assumption | (simp only [List.length_map, List.length_append, List.length_set]; omega) | omega) only [width_ev hd (by simpa using hk) (fun w hw' => ⟨by have := hwk w hw'; omega, (hwk w hw').2⟩), plain_ev, Ev.iteI, Bool.not_eq_false', grd_dec2, rd_set, Int.toNat_natCast, inside_ev, Bool.not_eq_true', decide_eq_false_iff_not, wrap64, Ev.s2 Kr]
    by_cases hp : plainB x = true
    ·rw [if_pos hp]
     have hst : stepW d x wide = acc (nodeW d x (x.2.2.2.2.2.2.map fun k => rd wide k.toNat)) := by
      rw [hse, stepW]
      by_cases hkb : kindB d x = true
      ·rw [if_pos ⟨hin, hp, hkb⟩, if_pos hkb]
      ·rw [if_neg (fun h => hkb h.2.2), if_neg hkb]
     by_cases hacc : 1 ≤ nodeW d x (x.2.2.2.2.2.2.map fun k => rd wide k.toNat) ∧ nodeW d x (x.2.2.2.2.2.2.map fun k => rd wide k.toNat) ≤ 4096
     ·rw [if_neg (fun h => h hacc)]
      rw [hst, acc, if_pos hacc]
      simp only []
      match z, hz with
      | [], hz => simp at hz; omega
      | v :: z, hz =>
       have es : (wide ++ v :: z).set wide.length (nodeW d x (x.2.2.2.2.2.2.map fun k => rd wide k.toNat)) = (wide ++ [nodeW d x (x.2.2.2.2.2.2.map fun k => rd wide k.toNat)]) ++ z := by
        rw [List.set_append_right _ _ (Nat.le_refl _), Nat.sub_self, List.set_cons_zero, List.append_assoc]; rfl
       rw [es]
       have el : ((wide.length : Int) + 1) = ((wide ++ [nodeW d x (x.2.2.2.2.2.2.map fun k => rd wide k.toNat)]).length : Int) := by simp
       rw [el, widths_lp hd ht ys _ z _ (by rw [← e3, List.length_append]; rfl) (by simp at hz ⊢; omega) (by rw [setAll_len]; exact hu) (hw.app hacc)]
       cases widthsGo d ys (wide ++ [nodeW d x (x.2.2.2.2.2.2.map fun k => rd wide k.toNat)]) (setAll used x.2.2.2.2.2.2) with
       | none => exact Ev.s2 Kr _ _
       | some r => exact Ev.s3 Kx _ _ _
     ·rw [if_pos hacc, hst, acc, if_neg hacc]
    ·rw [if_neg hp, stepW, if_neg (fun h => hp h.2.1)]
   ·rw [if_neg hin, stepW, if_neg (fun h => hin h.1)]
  ·rw [if_pos (by omega)]
   have : stepW d x wide = none := by
    unfold stepW
    split
    ·rename_i hh
     have hse := hse (kids_wok hw hh.1) (by simp)
     rw [if_neg hk, if_pos hh.2.2] at hse
     exact hse.symm
    ·rfl
   rw [this]
end Go.Vsi
end

section
set_option linter.unusedVariables false
set_option linter.unusedSimpArgs false
set_option synthInstance.maxSize 4096
namespace Go.Vsi
theorem slices_Index_bool_lp {l : List Bool} {v : Bool} (hl : l.length ≤ 1099511627776) : ∀ (ys : List Bool) (x : Int), l.drop x.toNat = ys → 0 ≤ x →
  ∀ (Kx : Nat → Prop) (Kr : Nat → Int → Prop),
  (Ev (fun n => slices_Index_bool.l2 n l v l.length x (Kx n) (Kr n)) ↔ if firstIx (fun y => v == y) ys x < 0 then Ev Kx else Ev (fun n => Kr n (firstIx (fun y => v == y) ys x)))
 | [], x, h, h0, Kx, Kr => by
  have := drop_nil h h0
  rw [firstIx, if_pos (by decide)]
  refine Ev.suc.trans ?_
  simp (disch := omega) only [slices_Index_bool.l2, slices_Index_bool.l2.b, if_neg, decide_eq_true_eq, Ev.s0 Kx]
 | y :: ys, x, h, h0, Kx, Kr => by
  obtain ⟨e1, e2, e3⟩ := drop_cons h h0
  refine Ev.suc.trans ?_
  simp (disch := first | omega | omega) only [slices_Index_bool.l2, slices_Index_bool.l2.b, if_pos, decide_eq_true_eq, grd_dec2, e2, wrap64, Ev.s1 Kr, Ev.s0 Kx, Ev.iteI]
  rw [slices_Index_bool_lp hl ys (x + 1) e3 (by omega), Ev.s0 Kx, Ev.s1 Kr]
  simp only [firstIx, decide_eq_true_eq]
  split
  ·rw [if_neg (by omega)]
  ·rfl
theorem slices_Index_bool_ev {l : List Bool} {v : Bool} (hl : l.length ≤ 1099511627776) (R : Nat → Int → Prop) :
  Ev (fun n => slices_Index_bool.c n l v (R n)) ↔ Ev (fun n => R n (firstIx (fun y => v == y) l 0)) := by
 refine Ev.suc.trans ?_
 simp only [slices_Index_bool.c, slices_Index_bool.w]
 rw [slices_Index_bool_lp hl l 0 rfl (by omega), Ev.s1 R, Ev.s1 R]
 split
 ·rw [firstIx_neg (by omega) ‹_›]
 ·rfl
theorem slices_Contains_bool_ev {l : List Bool} {v : Bool} (hl : l.length ≤ 1099511627776) (R : Nat → Bool → Prop) :
  Ev (fun n => slices_Contains_bool.c n l v (R n)) ↔ Ev (fun n => R n (l.any fun y => v == y)) := by
 refine Ev.suc.trans ?_
 simp only [slices_Contains_bool.c, slices_Contains_bool.w]
 rw [slices_Index_bool_ev hl, Ev.s1 R, firstIx_any (by omega)]
theorem any_false (l : List Bool) : (!(l.any fun y => false == y)) = l.all id := by
 induction l with
 | nil => rfl
 | cons a l ih => rw [List.any_cons, List.all_cons, Bool.not_or, ih]; cases a <;> rfl
def widthsI (d : List tDecl) (t : List tTNode) : List Int × Bool :=
 if 1 ≤ t.length ∧ t.length ≤ 400 then (match widthsGo d t [] (List.replicate t.length false) with
  | some r => (r.1, (r.2.take (t.length - 1)).all id)
  | none => ([], false)) else ([], false)
theorem widthsI_ok {d : List tDecl} {t : List tTNode} (h : (widthsI d t).2 = true) : WOk (widthsI d t).1 ∧ (widthsI d t).1.length = t.length ∧ 1 ≤ t.length ∧ t.length ≤ 400 := by
 unfold widthsI at h ⊢
 by_cases hl : 1 ≤ t.length ∧ t.length ≤ 400
 ·rw [if_pos hl] at h ⊢
  cases hg : widthsGo d t [] (List.replicate t.length false) with
  | none => rw [hg] at h; cases h
  | some r =>
   rw [hg] at h
   obtain ⟨h1, h2, h3⟩ := widthsGo_ok (fun w hw => by cases hw) hg
   exact ⟨h1, by simpa using h2, hl⟩
 ·rw [if_neg hl] at h; cases h
theorem widths_ev {d : List tDecl} {t : List tTNode} (hd : d.length ≤ 1099511627776) (R : Nat → List Int → Bool → Prop) :
  Ev (fun n => impl_widths.c n d t (R n)) ↔ Ev (fun n => R n (widthsI d t).1 (widthsI d t).2) := by
 refine Ev.suc.trans ?_
 simp only [impl_widths.c, impl_widths.w, Ev.iteI, decide_eq_true_eq, decide_eq_false_iff_not, Ev.s2 R, widthsI]
 by_cases hl : 1 ≤ t.length ∧ t.length ≤ 400
 ·rw [if_pos (by omega), if_neg (by omega), if_pos hl]
  have lp := fun (Kx : Nat → Int → List Int → List Bool → Prop) (Kr : Nat → Bool → List Int → Prop) => widths_lp hd hl.2 t [] (List.replicate t.length 0) (List.replicate t.length false) rfl (by simp) (by simp) (fun w hw => by cases hw) Kx Kr
  simp only [List.length_nil, List.nil_append, Int.natCast_zero] at lp
  simp (disch := omega) only [impl_widths.j1, impl_widths.j0, grd_dec2, decide_true, Bool.and_true, and_self, Int.toNat_natCast]
  rw [lp]
  cases hg : widthsGo d t [] (List.replicate t.length false) with
  | none => exact Ev.s2 R _ _
  | some r =>
   obtain ⟨h1, h2, h3⟩ := widthsGo_ok (fun w hw => by cases hw) hg
   rw [List.length_replicate] at h3
   simp (disch := omega) only [wrap64, grd_dec3]
   rw [slices_Contains_bool_ev (by simp; omega), Ev.s2 R]
   rw [any_false, List.drop_zero, show ((t.length : Int) - 1).toNat = t.length - 1 from by omega]
 ·rw [if_neg hl]
  split
  ·rw [if_pos (by omega)]
  ·rfl
def widthI (d : List tDecl) (t : List tTNode) : Int := if (widthsI d t).2 = true then rd (widthsI d t).1 (t.length - 1) else -1
theorem widthI_ev {d : List tDecl} {t : List tTNode} (hd : d.length ≤ 1099511627776) (R : Nat → Int → Prop) :
  Ev (fun n => impl_widthOf.c n d t (R n)) ↔ Ev (fun n => R n (widthI d t)) := by
 refine Ev.suc.trans ?_
 simp only [impl_widthOf.c, impl_widthOf.w, widths_ev hd, Ev.iteI, Bool.not_eq_true', Ev.s1 R, widthI]
 by_cases h : (widthsI d t).2 = true
 ·obtain ⟨h1, h2, h3, h4⟩ := widthsI_ok h
  rw [if_pos h, if_neg (by simp [h])]
  simp (disch := omega) only [wrap64, grd_dec2, Ev.s1 R]
  rw [show (((widthsI d t).1.length : Int) - 1).toNat = t.length - 1 from by omega]
 ·rw [if_neg h, if_pos (by simpa using h)]
def widthOf (d : List tDecl) (t : List tTNode) : Int := if declsOk d = true then widthI d t else -1
theorem wideS_lp {d : List tDecl} {wide : List Int} {a b c e f : Int} {w ks : List Int} (hl : ks.length ≤ 1099511627776) (hw : WOk wide) : ∀ (ys : List Int) (s x : Int), ks.drop x.toNat = ys → 0 ≤ x → 0 ≤ s → s ≤ 8192 → kidsIn wide.length ys = true →
  ∀ (Kx : Nat → List tDecl → Int → Int → Int → Int → Int → Int → List Int → List Int → Prop),
  (Ev (fun n => spec_l3Wide.l3 n d wide a b c e f w ks s x (Kx n)) ↔ Ev (fun n => Kx n d (capSum s (ys.map fun k => rd wide k.toNat)) a b c e f w ks))
 | [], s, x, h, h0, hs, hs', hk, Kx => by
  have := drop_nil h h0
  refine Ev.suc.trans ?_
  simp (disch := omega) only [spec_l3Wide.l3, spec_l3Wide.l3.b, if_neg, decide_eq_true_eq, Ev.s9 Kx, List.map_nil, capSum]
 | y :: ys, s, x, h, h0, hs, hs', hk, Kx => by
  obtain ⟨e1, e2, e3⟩ := drop_cons h h0
  rw [kidsIn_cons] at hk
  have hy := hw _ (rd_mem hk.1.1 (show y < (wide.length : Int) by omega))
  refine Ev.suc.trans ?_
  simp (disch := omega) only [spec_l3Wide.l3, spec_l3Wide.l3.b, if_pos, decide_eq_true_eq, grd_dec2, e2, wrap64]
  rw [wideS_lp hl hw ys _ (x + 1) e3 (by omega) (by split <;> omega) (by split <;> omega) hk.2, Ev.s9 Kx, List.map_cons, capSum]
theorem wideS_ev {d : List tDecl} {wide : List Int} {a b c e f : Int} {w ks : List Int} (hd : d.length ≤ 1099511627776) (hl : ks.length ≤ 1099511627776) (hw : WOk wide) (hk : kidsIn wide.length ks = true) (hkb : kindB d (a, b, c, e, f, w, ks) = true) (R : Nat → Int → Prop) :
  Ev (fun n => spec_l3Wide.c n d a b c e f w ks wide (R n)) ↔ Ev (fun n => R n (specW d (a, b, c, e, f, w, ks) (capSum 0 (ks.map fun k => rd wide k.toNat)))) := by
 refine Ev.suc.trans ?_
 simp only [spec_l3Wide.c, spec_l3Wide.w]
 rw [wideS_lp hl hw ks 0 0 rfl (by omega) (by omega) (by omega) hk]
 have hs : 0 ≤ capSum 0 (ks.map fun k => rd wide k.toNat) ∧ capSum 0 (ks.map fun k => rd wide k.toNat) ≤ 8192 := by
  have hwk := kids_wok hw hk
  have := sum_ge hwk
  rw [capSum_eq (by omega) (by omega) hwk]
  split <;> omega
 generalize capSum 0 (ks.map fun k => rd wide k.toNat) = s at hs
 rw [kindB, decide_eq_true_eq] at hkb
 simp only [] at hkb
 simp only [spec_l3Wide.j2, spec_l3Wide.j3, Ev.iteI, decide_eq_true_eq, decide_eq_false_iff_not, Bool.not_eq_true', l1In_ev, Ev.s1 R, if_true]
 rw [specW]
 simp only []
 by_cases h1 : a = 1
 ·rw [if_pos h1, if_pos h1]
  simp (disch := omega) only [grd_dec2, Ev.s1 R]
 rw [if_neg h1, if_neg h1]
 by_cases h2 : a = 2
 ·rw [if_pos h2, if_pos h2]
 rw [if_neg h2, if_neg h2]
 by_cases h4 : a = 4
 ·rw [if_pos h4, if_pos h4]
  by_cases g1 : e < 0
  ·rw [if_neg (by omega), if_pos (Or.inl g1)]
  rw [if_pos g1]
  by_cases g2 : c < e
  ·rw [if_neg (by omega), if_pos (Or.inr (Or.inl g2))]
  rw [if_pos g2]
  by_cases g3 : c ≥ s
  ·rw [if_pos g3, if_pos (Or.inr (Or.inr g3))]
  rw [if_neg g3, if_neg (by omega), wrap64 (x := c - e) (by omega) (by omega), wrap64 (by omega) (by omega)]
 rw [if_neg h4, if_neg h4]
 have hm : 1 ≤ c ∧ c ≤ 4096 → IntKind.wrap .i64 (s * c) = s * c := fun h => by
  have := mulB hs.1 hs.2 (show 0 ≤ c by omega) h.2
  exact wrap64 (by omega) (by omega)
 have hp : 0 ≤ c ∧ c ≤ 4096 → IntKind.wrap .i64 (s + c) = s + c := fun h => wrap64 (by omega) (by omega)
 have key56 : (if ¬ (0 ≤ c ∧ c ≤ 4096) then Ev fun n => R n (-1) else Ev fun n => R n (IntKind.wrap .i64 (s + c))) ↔ Ev fun n => R n (if 0 ≤ c ∧ c ≤ 4096 then s + c else -1) := by
  by_cases g : 0 ≤ c ∧ c ≤ 4096
  ·rw [if_neg (fun h => h g), if_pos g, hp g]
  ·rw [if_pos g, if_neg g]
 have key78 : (if ¬ (0 ≤ c ∧ c ≤ 4096) then Ev fun n => R n (-1) else Ev fun n => R n s) ↔ Ev fun n => R n (if 0 ≤ c ∧ c ≤ 4096 then s else -1) := by
  by_cases g : 0 ≤ c ∧ c ≤ 4096
  ·rw [if_neg (fun h => h g), if_pos g]
  ·rw [if_pos g, if_neg g]
 have key9 : (if ¬ (1 ≤ c ∧ c ≤ 4096) then Ev fun n => R n (-1) else Ev fun n => R n (IntKind.wrap .i64 (s * c))) ↔ Ev fun n => R n (if 1 ≤ c ∧ c ≤ 4096 then s * c else -1) := by
  by_cases g : 1 ≤ c ∧ c ≤ 4096
  ·rw [if_neg (fun h => h g), if_pos g, hm g]
  ·rw [if_pos g, if_neg g]
 by_cases h5 : a = 5
 ·rw [if_pos h5, if_pos (Or.inl h5)]; exact key56
 rw [if_neg h5]
 by_cases h6 : a = 6
 ·rw [if_pos h6, if_pos (Or.inr h6)]; exact key56
 rw [if_neg h6, if_neg (show ¬ (a = 5 ∨ a = 6) by omega)]
 by_cases h7 : a = 7
 ·rw [if_pos h7, if_pos (Or.inl h7)]; exact key78
 rw [if_neg h7]
 by_cases h8 : a = 8
 ·rw [if_pos h8, if_pos (Or.inr h8)]; exact key78
 rw [if_neg h8, if_neg (show ¬ (a = 7 ∨ a = 8) by omega)]
 by_cases h9 : a = 9
 ·rw [if_pos h9, if_pos h9]; exact key9
 rw [if_neg h9, if_neg h9]
theorem usedS_lp {d : List tDecl} {i : Int} {o wide : List Int} {t : List tTNode} {x : tTNode} (hi0 : 0 ≤ i) (hi : i < (t.length : Int)) (hx : rd t i.toNat = x) (hl : x.2.2.2.2.2.2.length ≤ 1099511627776) : ∀ (ys : List Int) (j : Int) (used : List Bool), x.2.2.2.2.2.2.drop j.toNat = ys → 0 ≤ j → used.length = t.length → kidsIn i ys = true →
  ∀ (Kx : Nat → List tDecl → Int → List Int → List Bool → List Int → List tTNode → Prop),
  (Ev (fun n => spec_l3Widths.l16 n d i o wide t j used (Kx n)) ↔ Ev (fun n => Kx n d i o (setAll used ys) wide t))
 | [], j, used, h, h0, hu, hk, Kx => by
  have := drop_nil h h0
  refine Ev.suc.trans ?_
  simp (disch := omega) only [spec_l3Widths.l16, spec_l3Widths.l16.b, grd_dec2, hx, if_neg, decide_eq_true_eq, Ev.s6 Kx, setAll]
 | y :: ys, j, used, h, h0, hu, hk, Kx => by
  obtain ⟨e1, e2, e3⟩ := drop_cons h h0
  rw [kidsIn_cons] at hk
  refine Ev.suc.trans ?_
  simp (disch := omega) only [spec_l3Widths.l16, spec_l3Widths.l16.b, grd_dec2, hx, if_pos, decide_eq_true_eq, e2, wrap64]
  rw [usedS_lp hi0 hi hx hl ys (j + 1) _ e3 (by omega) (by simpa using hu) hk.2, Ev.s6 Kx, setAll]
theorem widthsS_lp {d : List tDecl} {t : List tTNode} (hd : d.length ≤ 1099511627776) (ht : t.length ≤ 400) (hg : ∀ x : tTNode, x ∈ t → Wd x.2.2.2.2.2.1 ∧ x.2.2.2.2.2.2.length ≤ 1099511627776) : ∀ (ys : List tTNode) (wide : List Int) (used : List Bool), t.drop wide.length = ys → (∀ x : tTNode, x ∈ ys → Wd x.2.2.2.2.2.1 ∧ x.2.2.2.2.2.2.length ≤ 1099511627776) → used.length = t.length → WOk wide →
  ∀ (Kx : Nat → List Int → List Int → List Bool → Prop) (Kr : Nat → List Int → Prop),
  (Ev (fun n => spec_l3Widths.l7 n d wide.length wide [] used t (Kx n) (Kr n)) ↔ match widthsGo d ys wide used with
   | some r => Ev (fun n => Kx n r.1 [] r.2)
   | none => Ev (fun n => Kr n []))
 | [], wide, used, h, hy, hu, hw, Kx, Kr => by
  have hle := List.drop_eq_nil_iff.1 h
  refine Ev.suc.trans ?_
  simp (disch := omega) only [spec_l3Widths.l7, spec_l3Widths.l7.b, if_neg, decide_eq_true_eq, Ev.s3 Kx, widthsGo]
 | x :: ys, wide, used, h, hy, hu, hw, Kx, Kr => by
  have h' : t.drop (wide.length : Int).toNat = x :: ys := h
  obtain ⟨e1, e2, e3⟩ := drop_cons h' (by omega)
  have e2' : rd t wide.length = x := e2
  have hx := hy x List.mem_cons_self
  refine Ev.suc.trans ?_
  simp (disch := first | exact hx.1 | exact hx.2 | omega) only [spec_l3Widths.l7, spec_l3Widths.l7.b, if_pos, decide_eq_true_eq, Ev.iteI, grd_dec2, Int.toNat_natCast, e2', Ev.s1 Kr, form_ev, Bool.not_eq_true']
  rw [widthsGo]
  by_cases hf : kidsIn wide.length x.2.2.2.2.2.2 = true ∧ plainB x = true ∧ kindB d x = true
  ·obtain ⟨f1, f2, f3⟩ := hf
   have e : (kidsIn (wide.length : Int) x.2.2.2.2.2.2 && plainB (x.1, x.2.1, x.2.2.1, x.2.2.2.1, x.2.2.2.2.1, x.2.2.2.2.2.1, x.2.2.2.2.2.2) && kindB d (x.1, x.2.1, x.2.2.1, x.2.2.2.1, x.2.2.2.2.1, x.2.2.2.2.2.1, x.2.2.2.2.2.2)) = true := by
    rw [f1, show plainB (x.1, x.2.1, x.2.2.1, x.2.2.2.1, x.2.2.2.2.1, x.2.2.2.2.2.1, x.2.2.2.2.2.2) = true from f2, show kindB d (x.1, x.2.1, x.2.2.1, x.2.2.2.1, x.2.2.2.2.1, x.2.2.2.2.2.1, x.2.2.2.2.2.2) = true from f3]; rfl
   rw [e, if_neg (by decide)]
   have hwi := fun (R : Nat → Int → Prop) => wideS_ev (wide := wide) hd hx.2 hw f1 f3 R
   simp (disch := omega) only [hwi, l1In_ev, Ev.iteI, Bool.not_eq_true', decide_eq_false_iff_not, Ev.s1 Kr, grd_dec]
   have hst : stepW d x wide = acc (specW d x (capSum 0 (x.2.2.2.2.2.2.map fun k => rd wide k.toNat))) := by
    rw [stepW, if_pos ⟨f1, f2, f3⟩]
   rw [hst]
   generalize hv : specW d x (capSum 0 (x.2.2.2.2.2.2.map fun k => rd wide k.toNat)) = v
   by_cases hacc : 1 ≤ v ∧ v ≤ 4096
   ·rw [if_neg (fun h => h hacc), acc, if_pos hacc]
    simp only []
    simp (disch := (simp only [List.length_cons, List.length_nil]; omega)) only [grd_dec]
    rw [usedS_lp (by omega) e1 e2 hx.2 _ 0 used rfl (by omega) hu f1]
    have el : IntKind.wrap .i64 ((wide.length : Int) + 1) = ((wide ++ [v]).length : Int) := by
     rw [wrap64 (by omega) (by omega)]; simp
    rw [el, widthsS_lp hd ht hg ys (wide ++ [v]) _ (by rw [← e3, List.length_append]; rfl) (fun x hx' => hy x (List.mem_cons_of_mem _ hx')) (by rw [setAll_len]; exact hu) (hw.app hacc)]
    simp only [Int.toNat_zero, List.drop_zero]
    cases widthsGo d ys (wide ++ [v]) (setAll used x.2.2.2.2.2.2) with
    | none => exact Ev.s1 Kr _
    | some r => exact Ev.s3 Kx _ _ _
   ·rw [if_pos hacc, acc, if_neg hacc]
  ·have e : (kidsIn (wide.length : Int) x.2.2.2.2.2.2 && plainB (x.1, x.2.1, x.2.2.1, x.2.2.2.1, x.2.2.2.2.1, x.2.2.2.2.2.1, x.2.2.2.2.2.2) && kindB d (x.1, x.2.1, x.2.2.1, x.2.2.2.1, x.2.2.2.2.1, x.2.2.2.2.2.1, x.2.2.2.2.2.2)) = false := by
    rw [Bool.eq_false_iff]
    intro h
    rw [Bool.and_eq_true, Bool.and_eq_true] at h
    exact hf ⟨h.1.1, h.1.2, h.2⟩
   rw [if_pos e, stepW, if_neg hf]
theorem allS_lp {wide : List Int} {used : List Bool} (hl : used.length ≤ 1048576) (h1 : 1 ≤ used.length) : ∀ (m : Nat) (i : Int), i + m = (used.length : Int) - 1 → 0 ≤ i → ∀ (Kx Kr : Nat → List Int → Prop),
  (Ev (fun n => spec_l3Widths.l20 n wide [] used i (Kx n) (Kr n)) ↔ if ((used.take (used.length - 1)).drop i.toNat).all id = true then Ev (fun n => Kx n wide) else Ev (fun n => Kr n []))
 | 0, i, h, h0, Kx, Kr => by
  refine Ev.suc.trans ?_
  simp (disch := omega) only [spec_l3Widths.l20, spec_l3Widths.l20.b, wrap64, if_neg, decide_eq_true_eq, Ev.s1 Kx]
  rw [List.drop_eq_nil_of_le (by simp; omega)]
  simp
 | m + 1, i, h, h0, Kx, Kr => by
  refine Ev.suc.trans ?_
  have hk : i.toNat < (used.take (used.length - 1)).length := by simp; omega
  have e : (used.take (used.length - 1)).drop i.toNat = rd used i.toNat :: (used.take (used.length - 1)).drop (i + 1).toNat := by
   rw [List.drop_eq_getElem_cons hk, show (i + 1).toNat = i.toNat + 1 from by omega]
   congr 1
   rw [List.getElem_take, rd, List.getD_eq_getElem?_getD, List.getElem?_eq_getElem (by omega)]; rfl
  simp (disch := omega) only [spec_l3Widths.l20, spec_l3Widths.l20.b, wrap64, if_pos, decide_eq_true_eq, grd_dec2, Ev.iteI, Bool.not_eq_true', Ev.s1 Kr, e]
  rw [allS_lp hl h1 m (i + 1) (by omega) (by omega), Ev.s1 Kx, Ev.s1 Kr, List.all_cons, id]
  cases rd used i.toNat <;> simp
theorem widthsS_ev {d : List tDecl} {t : List tTNode} (hd : d.length ≤ 1099511627776) (hg : ∀ x : tTNode, x ∈ t → Wd x.2.2.2.2.2.1 ∧ x.2.2.2.2.2.2.length ≤ 1099511627776) (R : Nat → List Int → Prop) :
  Ev (fun n => spec_l3Widths.c n d t (R n)) ↔ Ev (fun n => R n (if declsOk d = true ∧ (widthsI d t).2 = true then (widthsI d t).1 else [])) := by
 refine Ev.suc.trans ?_
 simp only [spec_l3Widths.c, spec_l3Widths.w, declsOkS_ev, Ev.iteI, decide_eq_true_eq, decide_eq_false_iff_not, Bool.not_eq_false', Ev.s1 R, widthsI]
 by_cases h : declsOk d = true
 ·rw [if_pos h]
  by_cases hl : 1 ≤ t.length ∧ t.length ≤ 400
  ·rw [if_pos (by omega), if_neg (by omega)]
   simp only [if_pos hl]
   have lp := fun (Kx : Nat → List Int → List Int → List Bool → Prop) (Kr : Nat → List Int → Prop) => widthsS_lp hd hl.2 hg t [] (List.replicate t.length false) rfl hg (by simp) (fun w hw => by cases hw) Kx Kr
   simp only [List.length_nil] at lp
   simp only [Int.natCast_zero] at lp
   simp (disch := omega) only [spec_l3Widths.j0, grd_dec2, decide_true, Bool.and_true, Int.toNat_natCast]
   rw [lp]
   cases hg' : widthsGo d t [] (List.replicate t.length false) with
   | none => simp only [h, Bool.false_eq_true, and_false, if_false]; exact Ev.s1 R _
   | some r =>
    obtain ⟨h1, h2, h3⟩ := widthsGo_ok (fun w hw => by cases hw) hg'
    rw [List.length_replicate] at h3
    simp only [h, true_and]
    rw [allS_lp (by omega) (by omega) (t.length - 1) 0 (by omega) (by omega), Ev.s1 R, Ev.s1 R, h3]
    simp only [Int.toNat_zero, List.drop_zero]
    split <;> rfl
  ·simp only [if_neg hl, Bool.false_eq_true, and_false, if_false]
   split
   ·rw [if_pos (by omega)]
   ·rfl
 ·rw [if_neg h]
  simp only [h, false_and, if_false]
  rw [if_neg (by simp)]
theorem widthOfS_ev {d : List tDecl} {t : List tTNode} (hd : d.length ≤ 1099511627776) (hg : ∀ x : tTNode, x ∈ t → Wd x.2.2.2.2.2.1 ∧ x.2.2.2.2.2.2.length ≤ 1099511627776) (R : Nat → Int → Prop) :
  Ev (fun n => spec_WidthOf.c n d t (R n)) ↔ Ev (fun n => R n (widthOf d t)) := by
 refine Ev.suc.trans ?_
 simp only [spec_WidthOf.c, spec_WidthOf.w, widthsS_ev hd hg, Ev.iteI, decide_eq_true_eq, Ev.s1 R, widthOf, widthI]
 by_cases h : declsOk d = true
 ·by_cases h2 : (widthsI d t).2 = true
  ·obtain ⟨h3, h4, h5, h6⟩ := widthsI_ok h2
   simp only [h, h2, and_self, if_true]
   rw [if_neg (by omega)]
   simp (disch := omega) only [wrap64, grd_dec2, Ev.s1 R]
   rw [show (((widthsI d t).1.length : Int) - 1).toNat = t.length - 1 from by omega]
  ·simp only [h, h2, and_false, if_false, List.length_nil, if_true]
   simp
 ·simp only [h, false_and, if_false, List.length_nil]
  simp
end Go.Vsi
end

section
set_option linter.unusedVariables false
set_option linter.unusedSimpArgs false
set_option synthInstance.maxSize 4096
namespace Go.Vsi
def LOk (l : List Int) : Prop := ∀ w ∈ l, 0 ≤ w ∧ w ≤ 1000000
theorem LOk.app {acc : List Int} {w : Int} (h : LOk acc) (hw : 0 ≤ w ∧ w ≤ 1000000) : LOk (acc ++ [w]) := by
 intro v hv
 rcases List.mem_append.1 hv with hv | hv
 ·exact h v hv
 ·rw [List.mem_singleton] at hv; subst hv; exact hw
end Go.Vsi
end

section
set_option linter.unusedVariables false
set_option linter.unusedSimpArgs false
set_option synthInstance.maxSize 4096
namespace Go.Vsi
def litsGo (d : List tDecl) : List tLiteral → Int → Bool
 | [], _ => true
 | l :: r, b => decide (b + 1 ≤ l.1 ∧ l.1 ≤ 1000000) && !(decide (widthI d l.2.2.1 < 0)) && decide (widthI d l.2.2.1 = widthI d l.2.2.2) && litsGo d r l.1
def litsI (d : List tDecl) (l : List tLiteral) : Bool := decide (l.length ≤ 60) && litsGo d l 0
def litsOk (d : List tDecl) (l : List tLiteral) : Bool := declsOk d && litsI d l
theorem lits_lp {d : List tDecl} {l : List tLiteral} (hd : d.length ≤ 1099511627776) (hl : l.length ≤ 60) : ∀ (ys : List tLiteral) (x b : Int), l.drop x.toNat = ys → 0 ≤ x → 0 ≤ b → b ≤ 1000000 → ∀ (R : Nat → Bool → Prop),
  (Ev (fun n => impl_literalsOk.l5 n d l l.length b x (R n true) (R n)) ↔ Ev (fun n => R n (litsGo d ys b)))
 | [], x, b, h, h0, hb, hb', R => by
  have := drop_nil h h0
  refine Ev.suc.trans ?_
  simp (disch := omega) only [impl_literalsOk.l5, impl_literalsOk.l5.b, if_neg, decide_eq_true_eq, Ev.s1 R, litsGo]
 | y :: ys, x, b, h, h0, hb, hb', R => by
  obtain ⟨e1, e2, e3⟩ := drop_cons h h0
  refine Ev.suc.trans ?_
  simp (disch := omega) only [impl_literalsOk.l5, impl_literalsOk.l5.b, if_pos, decide_eq_true_eq, decide_eq_false_iff_not, grd_dec2, e2, wrap64, widthI_ev hd, inside_ev, Ev.iteI, Bool.not_eq_false', Bool.not_eq_true', Ev.s1 R, litsGo]
  by_cases h1 : b + 1 ≤ y.1 ∧ y.1 ≤ 1000000
  ·rw [if_pos h1]
   by_cases h2 : widthI d y.2.2.1 < 0
   ·rw [if_neg (fun h => h h2)]; simp [h2]
   ·rw [if_pos h2]
    by_cases h3 : widthI d y.2.2.1 = widthI d y.2.2.2
    ·rw [if_neg (fun h => h h3), lits_lp hd hl ys (x + 1) y.1 e3 (by omega) (by omega) (by omega) (fun n => R (n + 1)), Ev.s1 R]
     simp only [h1, h2, h3, and_self, decide_true, decide_false, Bool.not_false, Bool.true_and]
     rw [← h3]; simp [h2]
    ·rw [if_pos h3]; simp [h3]
  ·rw [if_neg h1]; simp [h1]
theorem litsI_ev {d : List tDecl} {l : List tLiteral} (hd : d.length ≤ 1099511627776) (R : Nat → Bool → Prop) :
  Ev (fun n => impl_literalsOk.c n d l (R n)) ↔ Ev (fun n => R n (litsI d l)) := by
 refine Ev.suc.trans ?_
 simp only [impl_literalsOk.c, impl_literalsOk.w, Ev.iteI, decide_eq_true_eq, Ev.s1 R, litsI]
 by_cases h : l.length ≤ 60
 ·rw [if_neg (by omega), lits_lp hd h l 0 0 rfl (by omega) (by omega) (by omega) (fun n => R (n + 1)), Ev.s1 R]
  simp [h]
 ·rw [if_pos (by omega)]; simp [h]
def LitG (l : List tLiteral) : Prop := ∀ y : tLiteral, y ∈ l → (∀ x : tTNode, x ∈ y.2.2.1 → Wd x.2.2.2.2.2.1 ∧ x.2.2.2.2.2.2.length ≤ 1099511627776) ∧ (∀ x : tTNode, x ∈ y.2.2.2 → Wd x.2.2.2.2.2.1 ∧ x.2.2.2.2.2.2.length ≤ 1099511627776)
theorem widthOf_I {d : List tDecl} {t : List tTNode} (h : declsOk d = true) : widthOf d t = widthI d t := by rw [widthOf, if_pos h]
theorem litsS_lp {d : List tDecl} {l : List tLiteral} (hd : d.length ≤ 1099511627776) (hok : declsOk d = true) (hl : l.length ≤ 60) : ∀ (ys : List tLiteral) (x b : Int), l.drop x.toNat = ys → 0 ≤ x → LitG ys → 0 ≤ b → (x = 0 → b = 0) → (0 < x → (rd l (x - 1).toNat).1 = b) → ∀ (R : Nat → Bool → Prop),
  (Ev (fun n => spec_LiteralsOk.l4 n d l x (R n true) (R n)) ↔ Ev (fun n => R n (litsGo d ys b)))
 | [], x, b, h, h0, hg, hb, hb0, hb1, R => by
  have := drop_nil h h0
  refine Ev.suc.trans ?_
  simp (disch := omega) only [spec_LiteralsOk.l4, spec_LiteralsOk.l4.b, if_neg, decide_eq_true_eq, Ev.s1 R, litsGo]
 | y :: ys, x, b, h, h0, hg, hb, hb0, hb1, R => by
  obtain ⟨e1, e2, e3⟩ := drop_cons h h0
  have hgy := hg y List.mem_cons_self
  have s1 := fun (R : Nat → Int → Prop) => widthOfS_ev (t := y.2.2.1) hd hgy.1 R
  have s2 := fun (R : Nat → Int → Prop) => widthOfS_ev (t := y.2.2.2) hd hgy.2 R
  have tail : 1 ≤ y.1 ∧ y.1 ≤ 1000000 → ((if widthI d y.2.2.1 < 0 then Ev (fun n => R n false) else if ¬ widthI d y.2.2.2 = widthI d y.2.2.1 then Ev (fun n => R n false) else Ev fun n => spec_LiteralsOk.l4 n d l (x + 1) (R (n + 1) true) (R (n + 1))) ↔
    Ev fun n => R n (!(decide (widthI d y.2.2.1 < 0)) && decide (widthI d y.2.2.1 = widthI d y.2.2.2) && litsGo d ys y.1)) := fun hr => by
   by_cases h2 : widthI d y.2.2.1 < 0
   ·rw [if_pos h2]; simp [h2]
   ·rw [if_neg h2]
    by_cases h3 : widthI d y.2.2.2 = widthI d y.2.2.1
    ·rw [if_neg (fun h => h h3), litsS_lp hd hok hl ys (x + 1) y.1 e3 (by omega) (fun z hz => hg z (List.mem_cons_of_mem _ hz)) (by omega) (by omega) (fun _ => by rw [show x + 1 - 1 = x from by omega, e2]) (fun n => R (n + 1)), Ev.s1 R, h3]
     simp [h2]
    ·rw [if_pos h3, show decide (widthI d y.2.2.1 = widthI d y.2.2.2) = false from by rw [decide_eq_false_iff_not]; exact fun h => h3 h.symm]
     simp
  refine Ev.suc.trans ?_
  rw [litsGo]
  by_cases hr : 1 ≤ y.1 ∧ y.1 ≤ 1000000
  ·by_cases hx : 0 < x
   ·have hp := hb1 hx
    simp (disch := omega) only [spec_LiteralsOk.l4, spec_LiteralsOk.l4.b, if_pos, decide_eq_true_eq, decide_eq_false_iff_not, grd_dec2, e2, wrap64, s1, s2, l1In_ev, Ev.iteI, Bool.not_eq_false', Bool.not_eq_true', Ev.s1 R, widthOf_I hok, hp, gt_iff_lt, ite_not]
    by_cases h4 : y.1 ≤ b
    ·rw [if_pos h4, show decide (b + 1 ≤ y.1 ∧ y.1 ≤ 1000000) = false from by rw [decide_eq_false_iff_not]; omega]; simp
    ·rw [if_neg h4, show decide (b + 1 ≤ y.1 ∧ y.1 ≤ 1000000) = true from by rw [decide_eq_true_eq]; omega, Bool.true_and]
     have t := tail hr
     simp only [ite_not] at t
     exact t
   ·have hx0 : x = 0 := by omega
    have hbz := hb0 hx0
    subst hbz
    simp (disch := omega) only [spec_LiteralsOk.l4, spec_LiteralsOk.l4.b, if_pos, if_neg, decide_eq_true_eq, decide_eq_false_iff_not, grd_dec2, e2, wrap64, s1, s2, l1In_ev, Ev.iteI, Bool.not_eq_false', Bool.not_eq_true', Ev.s1 R, widthOf_I hok, gt_iff_lt, ite_not]
    rw [show decide ((0 : Int) + 1 ≤ y.1 ∧ y.1 ≤ 1000000) = true from by rw [decide_eq_true_eq]; omega, Bool.true_and]
    have t := tail hr
    simp only [ite_not] at t
    exact t
  ·simp (disch := omega) only [spec_LiteralsOk.l4, spec_LiteralsOk.l4.b, if_pos, decide_eq_true_eq, grd_dec2, e2, s1, l1In_ev, Ev.iteI, Bool.not_eq_false', hr, if_false, Ev.s1 R]
   rw [show decide (b + 1 ≤ y.1 ∧ y.1 ≤ 1000000) = false from by rw [decide_eq_false_iff_not]; omega]; simp
theorem litsS_ev {d : List tDecl} {l : List tLiteral} (hd : d.length ≤ 1099511627776) (hg : LitG l) (R : Nat → Bool → Prop) :
  Ev (fun n => spec_LiteralsOk.c n d l (R n)) ↔ Ev (fun n => R n (litsOk d l)) := by
 refine Ev.suc.trans ?_
 simp only [spec_LiteralsOk.c, spec_LiteralsOk.w, declsOkS_ev, Ev.iteI, decide_eq_true_eq, Bool.not_eq_false', Ev.s1 R, litsOk, litsI]
 by_cases h : declsOk d = true
 ·rw [if_pos h, h, Bool.true_and]
  by_cases hl : l.length ≤ 60
  ·rw [if_neg (by omega), litsS_lp hd h hl l 0 0 rfl (by omega) hg (by omega) (fun _ => rfl) (fun h => absurd h (by omega)) (fun n => R (n + 1)), Ev.s1 R]
   simp [hl]
  ·rw [if_pos (by omega)]; simp [hl]
 ·rw [if_neg h, show declsOk d = false from by simpa using h, Bool.false_and]
end Go.Vsi
end

section
set_option linter.unusedVariables false
set_option linter.unusedSimpArgs false
set_option synthInstance.maxSize 4096
namespace Go.Vsi
def scopesGo (n : Int) : List tScope → Int → Bool
 | [], _ => true
 | x :: r, b => decide (b ≤ x.1 ∧ x.1 ≤ n) && scopesGo n r x.1
def endOf (d : List tDecl) : List tScope → Int
 | [] => d.length
 | y :: _ => y.1
def scopeLits (d : List tDecl) : List tScope → Bool
 | [] => true
 | x :: r => litsI (d.take (endOf d r).toNat) x.2 && scopeLits d r
def rise : List tLiteral → Int → Bool
 | [], _ => true
 | l :: r, b => decide (b < l.1) && rise r l.1
def lastId : List tLiteral → Int → Int
 | [], b => b
 | l :: r, _ => lastId r l.1
theorem rise_app : ∀ {a b : List tLiteral} {c : Int}, rise (a ++ b) c = (rise a c && rise b (lastId a c))
 | [], b, c => by rw [List.nil_append, rise, lastId, Bool.true_and]
 | l :: a, b, c => by rw [List.cons_append, rise, rise, rise_app, lastId, Bool.and_assoc]
theorem lastId_app : ∀ {a b : List tLiteral} {c : Int}, lastId (a ++ b) c = lastId b (lastId a c)
 | [], b, c => rfl
 | l :: a, b, c => by rw [List.cons_append, lastId, lastId, lastId_app]
def allLits : List tScope → List tLiteral
 | [] => []
 | x :: r => x.2 ++ allLits r
def sessionOk (d : List tDecl) (s : List tScope) (next : Int) : Bool :=
 declsOk d && decide (1 ≤ s.length ∧ s.length ≤ 20) && decide (1 ≤ next ∧ next ≤ 1000000) && decide ((rd s 0).1 = 0) && scopesGo d.length s 0 && scopeLits d s && decide ((allLits s).length ≤ 60) && rise (allLits s) 0 && decide (lastId (allLits s) 0 < next)
theorem declsGo_le : ∀ {b pre : List tDecl} {t : Int}, declsGo pre b t = true → t ≤ 20000
 | [], pre, t, h => by rw [declsGo, decide_eq_true_eq] at h; exact h
 | y :: b, pre, t, h => by
  rw [declsGo, Bool.and_eq_true, Bool.and_eq_true, Bool.and_eq_true, decide_eq_true_eq] at h
  have := declsGo_le h.2
  have := h.1.1.2
  omega
theorem declsGo_app : ∀ {a b pre : List tDecl} {t : Int}, declsGo pre (a ++ b) t = true → declsGo pre a t = true
 | [], b, pre, t, h => by rw [declsGo, decide_eq_true_eq]; exact declsGo_le h
 | y :: a, b, pre, t, h => by
  rw [List.cons_append, declsGo, Bool.and_eq_true] at h
  rw [declsGo, Bool.and_eq_true]
  exact ⟨h.1, declsGo_app h.2⟩
theorem declsOk_take {d : List tDecl} {k : Nat} (h : declsOk d = true) : declsOk (d.take k) = true := by
 rw [declsOk, Bool.and_eq_true, decide_eq_true_eq] at h ⊢
 refine ⟨by rw [List.length_take]; omega, ?_⟩
 have : declsGo [] (d.take k ++ d.drop k) 0 = true := by rw [List.take_append_drop]; exact h.2
 exact declsGo_app this
theorem litsGo_ge {d : List tDecl} : ∀ {l : List tLiteral} {b : Int}, 0 ≤ b → litsGo d l b = true → ∀ y ∈ l, 1 ≤ y.1
 | [], b, h0, h, y, hy => by cases hy
 | z :: l, b, h0, h, y, hy => by
  rw [litsGo, Bool.and_eq_true, Bool.and_eq_true, Bool.and_eq_true, decide_eq_true_eq] at h
  rcases List.mem_cons.1 hy with rfl | hy
  ·omega
  ·exact litsGo_ge (by omega) h.2 y hy
theorem scopeLits_ge {d : List tDecl} : ∀ {s : List tScope}, scopeLits d s = true → ∀ y ∈ allLits s, 1 ≤ y.1
 | [], h, y, hy => by cases hy
 | x :: r, h, y, hy => by
  rw [scopeLits, Bool.and_eq_true, litsI, Bool.and_eq_true] at h
  rcases List.mem_append.1 hy with hy | hy
  ·exact litsGo_ge (by omega) h.1.2 y hy
  ·exact scopeLits_ge h.2 y hy
theorem sEnd_ev {d : List tDecl} {s : List tScope} {next k : Int} (hs : s.length ≤ 1048576) (hk0 : 0 ≤ k) (hk : k < (s.length : Int)) (R : Nat → Int → Prop) :
  Ev (fun n => impl_Session_end.c n (d, s, next) k (R n)) ↔ Ev (fun n => R n (endOf d (s.drop (k + 1).toNat))) := by
 refine Ev.suc.trans ?_
 simp (disch := omega) only [impl_Session_end.c, impl_Session_end.w, wrap64, Ev.iteI, decide_eq_true_eq, grd_dec2, Ev.s1 R]
 by_cases h : k + 1 < (s.length : Int)
 ·rw [if_pos h]
  have e : s.drop (k + 1).toNat = rd s (k + 1).toNat :: s.drop ((k + 1).toNat + 1) := by
   rw [List.drop_eq_getElem_cons (by omega)]
   congr 1
   rw [rd, List.getD_eq_getElem?_getD, List.getElem?_eq_getElem (by omega)]; rfl
  rw [e]; rfl
 ·rw [if_neg h, List.drop_eq_nil_of_le (by omega)]; rfl
theorem scopes_lp {d : List tDecl} {s s' : List tScope} {next : Int} (hs : s.length ≤ 1048576) : ∀ (ys : List tScope) (k b : Int), s.drop k.toNat = ys → 0 ≤ k → (k = 0 → b = 0) → ∀ (Kx : Nat → List tDecl → List tScope → Int → Prop) (Kr : Nat → Bool → Prop),
  (Ev (fun n => impl_SessionOk.l5 n s s.length d s' next b k (Kx n) (Kr n)) ↔ if scopesGo d.length ys b = true ∧ (k = 0 → ys ≠ [] → (rd ys 0).1 = 0) then Ev (fun n => Kx n d s' next) else Ev (fun n => Kr n false))
 | [], k, b, h, h0, hb, Kx, Kr => by
  have := drop_nil h h0
  refine Ev.suc.trans ?_
  simp (disch := omega) only [impl_SessionOk.l5, impl_SessionOk.l5.b, if_neg, decide_eq_true_eq, Ev.s3 Kx]
  rw [if_pos ⟨rfl, fun _ h => absurd rfl h⟩]
 | y :: ys, k, b, h, h0, hb, Kx, Kr => by
  obtain ⟨e1, e2, e3⟩ := drop_cons h h0
  have er : rd (y :: ys) 0 = y := rfl
  refine Ev.suc.trans ?_
  simp (disch := omega) only [impl_SessionOk.l5, impl_SessionOk.l5.b, if_pos, decide_eq_true_eq, decide_eq_false_iff_not, Bool.not_eq_true', Bool.not_eq_false', grd_dec2, e2, wrap64, inside_ev, Ev.iteI, Ev.s1 Kr, scopes_lp hs ys (k + 1) y.1 e3 (by omega) (fun h => absurd h (by omega)), Ev.s3 Kx, er]
  simp only [scopesGo, Bool.and_eq_true, decide_eq_true_eq]
  have hk1 : ¬ k + 1 = 0 := by omega
  simp only [hk1, false_imp_iff, and_true]
  by_cases hk : k = 0
  ·simp only [hk, if_true, true_imp_iff, ne_eq, List.cons_ne_nil, not_false_eq_true]
   by_cases h1 : y.1 = 0
   ·rw [if_pos h1]
    by_cases h2 : b ≤ y.1 ∧ y.1 ≤ (d.length : Int)
    ·rw [if_neg (fun h => h h2)]; rw [h1] at h2; simp only [h1, h2, and_self, true_and, and_true]
    ·rw [if_pos h2, if_neg (fun h => h2 h.1.1)]
   ·rw [if_neg h1, if_neg (fun h => h1 h.2)]
  ·simp only [hk, if_false, false_imp_iff, and_true]
   by_cases h2 : b ≤ y.1 ∧ y.1 ≤ (d.length : Int)
   ·rw [if_neg (fun h => h h2)]; simp only [h2, and_self, true_and]
   ·rw [if_pos h2, if_neg (fun h => h2 h.1)]
theorem endOf_in {d : List tDecl} : ∀ {r : List tScope} {b : Int}, 0 ≤ b → scopesGo d.length r b = true → 0 ≤ endOf d r ∧ endOf d r ≤ (d.length : Int)
 | [], b, h0, h => by simp only [endOf]; omega
 | y :: r, b, h0, h => by
  rw [scopesGo, Bool.and_eq_true, decide_eq_true_eq] at h
  simp only [endOf]; omega
theorem scopeLits_lp {d : List tDecl} {s : List tScope} {next : Int} (hd : d.length ≤ 1099511627776) (hs : s.length ≤ 1048576) : ∀ (ys : List tScope) (k b : Int), s.drop k.toNat = ys → 0 ≤ k → 0 ≤ b → scopesGo d.length ys b = true → ∀ (Kx : Nat → List tDecl → List tScope → Int → Prop) (Kr : Nat → Bool → Prop),
  (Ev (fun n => impl_SessionOk.l12 n s s.length d s next k (Kx n) (Kr n)) ↔ if scopeLits d ys = true then Ev (fun n => Kx n d s next) else Ev (fun n => Kr n false))
 | [], k, b, h, h0, hb, hg, Kx, Kr => by
  have := drop_nil h h0
  refine Ev.suc.trans ?_
  simp (disch := omega) only [impl_SessionOk.l12, impl_SessionOk.l12.b, if_neg, decide_eq_true_eq, Ev.s3 Kx, scopeLits, if_true]
 | y :: ys, k, b, h, h0, hb, hg, Kx, Kr => by
  obtain ⟨e1, e2, e3⟩ := drop_cons h h0
  rw [scopesGo, Bool.and_eq_true, decide_eq_true_eq] at hg
  have he := endOf_in (d := d) (r := ys) (b := y.1) (by omega) hg.2
  refine Ev.suc.trans ?_
  simp (disch := omega) only [impl_SessionOk.l12, impl_SessionOk.l12.b, if_pos, decide_eq_true_eq, grd_dec2, e2, sEnd_ev hs h0 e1, e3, grd_dec3, and_self, List.drop_zero]
  rw [litsI_ev (by rw [List.length_take]; omega)]
  simp (disch := omega) only [Ev.iteI, Bool.not_eq_true', Ev.s1 Kr, wrap64, scopeLits_lp hd hs ys (k + 1) y.1 e3 (by omega) (by omega) hg.2, Ev.s3 Kx, scopeLits, Bool.and_eq_true]
  cases litsI (d.take (endOf d ys).toNat) y.2 <;> simp
theorem all_lp {s : List tScope} (hs : s.length ≤ 1048576) : ∀ (ys : List tScope) (k : Int) (acc : List tLiteral), s.drop k.toNat = ys → 0 ≤ k → acc.length + (allLits ys).length ≤ 1048576 → ∀ (Kx : Nat → List tLiteral → Prop),
  (Ev (fun n => impl_Session_all.l3 n s s.length k acc (Kx n)) ↔ Ev (fun n => Kx n (acc ++ allLits ys)))
 | [], k, acc, h, h0, hb, Kx => by
  have := drop_nil h h0
  refine Ev.suc.trans ?_
  simp (disch := omega) only [impl_Session_all.l3, impl_Session_all.l3.b, if_neg, decide_eq_true_eq, Ev.s1 Kx, allLits, List.append_nil]
 | y :: ys, k, acc, h, h0, hb, Kx => by
  obtain ⟨e1, e2, e3⟩ := drop_cons h h0
  rw [allLits, List.length_append] at hb
  refine Ev.suc.trans ?_
  simp (disch := omega) only [impl_Session_all.l3, impl_Session_all.l3.b, if_pos, decide_eq_true_eq, grd_dec2, grd_dec, e2, wrap64]
  rw [all_lp hs ys (k + 1) _ e3 (by omega) (by rw [List.length_append]; omega), Ev.s1 Kx, allLits, List.append_assoc]
theorem all_ev {d : List tDecl} {s : List tScope} {next : Int} (hs : s.length ≤ 1048576) (hb : (allLits s).length ≤ 1048576) (R : Nat → List tLiteral → Prop) :
  Ev (fun n => impl_Session_all.c n (d, s, next) (R n)) ↔ Ev (fun n => R n (allLits s)) := by
 refine Ev.suc.trans ?_
 simp only [impl_Session_all.c, impl_Session_all.w]
 rw [all_lp hs s 0 [] rfl (by omega) (by simpa using hb), Ev.s1 R, List.nil_append]
theorem ids_lp {d : List tDecl} {s : List tScope} {l : List tLiteral} {next : Int} (hl : l.length ≤ 1048576) : ∀ (ys : List tLiteral) (x b : Int), l.drop x.toNat = ys → 0 ≤ x → (x = 0 → b = 0) → (∀ y ∈ ys, 1 ≤ y.1) → (0 < x → (rd l (x - 1).toNat).1 = b) → ∀ (Kx : Nat → Prop) (Kr : Nat → Bool → Prop),
  (Ev (fun n => impl_SessionOk.l21 n l.length l d s next x (Kx n) (Kr n)) ↔ if rise ys b = true ∧ (∀ y ∈ ys, y.1 < next) then Ev Kx else Ev (fun n => Kr n false))
 | [], x, b, h, h0, hb, hy, hp, Kx, Kr => by
  have := drop_nil h h0
  refine Ev.suc.trans ?_
  simp (disch := omega) only [impl_SessionOk.l21, impl_SessionOk.l21.b, if_neg, decide_eq_true_eq, Ev.s0 Kx]
  rw [if_pos ⟨rfl, fun y hy => absurd hy List.not_mem_nil⟩]
 | y :: ys, x, b, h, h0, hb, hy, hp, Kx, Kr => by
  obtain ⟨e1, e2, e3⟩ := drop_cons h h0
  have hy0 := hy y List.mem_cons_self
  have ih := ids_lp (d := d) (s := s) (next := next) hl ys (x + 1) y.1 e3 (by omega) (fun h => absurd h (by omega)) (fun z hz => hy z (List.mem_cons_of_mem _ hz)) (fun _ => by rw [show x + 1 - 1 = x from by omega, e2]) (fun n => Kx (n + 1)) (fun n => Kr (n + 1))
  have ec : (rise (y :: ys) b = true ∧ ∀ z ∈ y :: ys, z.1 < next) ↔ b < y.1 ∧ y.1 < next ∧ rise ys y.1 = true ∧ ∀ z ∈ ys, z.1 < next := by
   rw [rise, Bool.and_eq_true, decide_eq_true_eq, List.forall_mem_cons]
   constructor
   ·rintro ⟨⟨a, b⟩, c, d⟩; exact ⟨a, c, b, d⟩
   ·rintro ⟨a, c, b, d⟩; exact ⟨⟨a, b⟩, c, d⟩
  simp only [ec]
  refine Ev.suc.trans ?_
  by_cases h1 : y.1 < next
  ·by_cases hx : 0 < x
   ·have hp' := hp hx
    simp (disch := omega) only [impl_SessionOk.l21, impl_SessionOk.l21.b, if_pos, decide_eq_true_eq, decide_eq_false_iff_not, grd_dec2, e2, wrap64, Ev.iteI, ge_iff_le, hp', Ev.s1 Kr, ih, Ev.s0 Kx]
    by_cases h2 : b < y.1
    ·rw [if_neg (by omega)]; simp only [h1, h2, true_and]
    ·rw [if_pos (by omega), if_neg (fun h => h2 h.1)]
   ·have hb0 := hb (by omega)
    simp (disch := omega) only [impl_SessionOk.l21, impl_SessionOk.l21.b, if_pos, if_neg, decide_eq_true_eq, decide_eq_false_iff_not, grd_dec2, e2, wrap64, Ev.iteI, ge_iff_le, Ev.s1 Kr, ih, Ev.s0 Kx]
    simp only [h1, show b < y.1 by omega, true_and]
  ·simp (disch := omega) only [impl_SessionOk.l21, impl_SessionOk.l21.b, if_pos, if_neg, decide_eq_true_eq, decide_eq_false_iff_not, grd_dec2, e2, Ev.iteI, ge_iff_le, Ev.s1 Kr]
theorem rise_last : ∀ {l : List tLiteral} {b next : Int}, rise l b = true → b < next → ((∀ y ∈ l, y.1 < next) ↔ lastId l b < next)
 | [], b, next, h, hb => by
  simp only [lastId]
  exact ⟨fun _ => hb, fun _ y hy => absurd hy List.not_mem_nil⟩
 | z :: l, b, next, h, hb => by
  rw [rise, Bool.and_eq_true, decide_eq_true_eq] at h
  rw [List.forall_mem_cons, lastId]
  by_cases hz : z.1 < next
  ·rw [rise_last h.2 hz]; exact ⟨fun h => h.2, fun h => ⟨hz, h⟩⟩
  ·have mono : ∀ (l : List tLiteral) (b : Int), rise l b = true → b ≤ lastId l b := by
    intro l
    induction l with
    | nil => intro b _; exact Int.le_refl _
    | cons y l ih =>
     intro b h
     rw [rise, Bool.and_eq_true, decide_eq_true_eq] at h
     have := ih _ h.2
     rw [lastId]; omega
   have := mono _ _ h.2
   exact ⟨fun h => absurd h.1 hz, fun h => absurd h (by omega)⟩
theorem sessionOk_ev {d : List tDecl} {s : List tScope} {next : Int} (hd : d.length ≤ 1099511627776) (hs : s.length ≤ 1048576) (hb : (allLits s).length ≤ 1048576) (R : Nat → Bool → Prop) :
  Ev (fun n => impl_SessionOk.c n d s next (R n)) ↔ Ev (fun n => R n (sessionOk d s next)) := by
 refine Ev.suc.trans ?_
 simp only [impl_SessionOk.c, impl_SessionOk.w, declsOk_ev, inside_ev, Ev.iteI, decide_eq_true_eq, decide_eq_false_iff_not, Bool.not_eq_false', Bool.not_eq_true', Ev.s1 R, sessionOk]
 by_cases h1 : declsOk d = true
 rotate_left
 ·rw [if_neg h1, show declsOk d = false from by simpa using h1]; simp
 rw [if_pos h1]
 by_cases h2 : 1 ≤ s.length ∧ s.length ≤ 20
 rotate_left
 ·rw [show decide (1 ≤ s.length ∧ s.length ≤ 20) = false from by rw [decide_eq_false_iff_not]; exact h2]
  simp only [Bool.and_false, Bool.false_and]
  split
  ·rw [if_neg (by omega)]
  ·rfl
 rw [if_pos (by omega), if_pos (by omega)]
 by_cases h3 : 1 ≤ next ∧ next ≤ 1000000
 rotate_left
 ·rw [if_pos h3, show decide (1 ≤ next ∧ next ≤ 1000000) = false from by rw [decide_eq_false_iff_not]; exact h3]; simp
 rw [if_neg (fun h => h h3)]
 simp only [impl_SessionOk.j0]
 rw [scopes_lp hs s 0 0 rfl (by omega) (fun _ => rfl), Ev.s1 R]
 have hne : s ≠ [] := fun h => by rw [h] at h2; simp at h2
 have hgd : (rd s 0).1 = (rd s 0).1 := rfl
 simp only [h1, h2, h3, and_self, decide_true, Bool.true_and, hne, ne_eq, not_false_eq_true, true_imp_iff]
 by_cases h4 : scopesGo d.length s 0 = true
 rotate_left
 ·rw [if_neg (fun h => h4 h.1), show scopesGo (d.length : Int) s 0 = false from by simpa using h4]; simp
 by_cases h5 : (rd s 0).1 = 0
 rotate_left
 ·rw [if_neg (fun h => h5 h.2), show decide ((rd s 0).1 = 0) = false from by rw [decide_eq_false_iff_not]; exact h5]; simp
 rw [if_pos ⟨h4, h5⟩, scopeLits_lp hd hs s 0 0 rfl (by omega) (by omega) h4, Ev.s1 R]
 simp only [h4, h5, decide_true, Bool.true_and]
 by_cases h6 : scopeLits d s = true
 rotate_left
 ·rw [if_neg h6, show scopeLits d s = false from by simpa using h6]; simp
 rw [if_pos h6, all_ev hs hb]
 simp only [Ev.iteI, decide_eq_true_eq, Ev.s1 R, h6, Bool.true_and]
 by_cases h7 : (allLits s).length ≤ 60
 rotate_left
 ·rw [if_pos (by omega), show decide ((allLits s).length ≤ 60) = false from by rw [decide_eq_false_iff_not]; exact h7]; simp
 rw [if_neg (by omega), ids_lp (by omega) (allLits s) 0 0 rfl (by omega) (fun _ => rfl) (scopeLits_ge h6) (fun h => absurd h (by omega)), Ev.s1 R, Ev.s1 R]
 simp only [h7, decide_true, Bool.true_and]
 by_cases h8 : rise (allLits s) 0 = true
 rotate_left
 ·rw [if_neg (fun h => h8 h.1), show rise (allLits s) 0 = false from by simpa using h8]; simp
 have e := rise_last h8 (show (0 : Int) < next by omega)
 by_cases h9 : lastId (allLits s) 0 < next
 ·rw [if_pos ⟨h8, e.2 h9⟩, h8, decide_eq_true h9]; exact Iff.rfl
 ·rw [if_neg (fun h => h9 (e.1 h.2)), h8, decide_eq_false h9]; exact Iff.rfl
theorem scopesS_lp {d : List tDecl} {s : List tScope} {next m : Int} (hs : s.length ≤ 1048576) : ∀ (ys : List tScope) (k b : Int), s.drop k.toNat = ys → 1 ≤ k → (rd s (k - 1).toNat).1 = b → ∀ (Kx : Nat → Int → List tDecl → List tScope → Int → Prop) (Kr : Nat → Bool → Prop),
  (Ev (fun n => spec_SessionOk.l5 n m d s next k (Kx n) (Kr n)) ↔ if scopesGo m ys b = true then Ev (fun n => Kx n m d s next) else Ev (fun n => Kr n false))
 | [], k, b, h, h0, hb, Kx, Kr => by
  have := drop_nil h (by omega)
  refine Ev.suc.trans ?_
  simp (disch := omega) only [spec_SessionOk.l5, spec_SessionOk.l5.b, if_neg, decide_eq_true_eq, Ev.s4 Kx, scopesGo, if_true]
 | y :: ys, k, b, h, h0, hb, Kx, Kr => by
  obtain ⟨e1, e2, e3⟩ := drop_cons h (by omega)
  have ih := scopesS_lp (d := d) (next := next) (m := m) hs ys (k + 1) y.1 e3 (by omega) (by rw [show k + 1 - 1 = k from by omega, e2]) (fun n => Kx (n + 1)) (fun n => Kr (n + 1))
  refine Ev.suc.trans ?_
  simp (disch := omega) only [spec_SessionOk.l5, spec_SessionOk.l5.b, if_pos, decide_eq_true_eq, grd_dec2, e2, hb, wrap64, l1In_ev, Ev.iteI, Bool.not_eq_true', decide_eq_false_iff_not, Ev.s1 Kr, ih, Ev.s4 Kx, scopesGo, Bool.and_eq_true]
  by_cases h2 : b ≤ y.1 ∧ y.1 ≤ m
  ·rw [if_neg (fun h => h h2)]; simp only [h2, and_self, true_and]
  ·rw [if_pos h2, if_neg (fun h => h2 h.1)]
theorem idsS_lp {d : List tDecl} {s : List tScope} {l : List tLiteral} {next a1 a2 a3 : Int} : ∀ (ys : List tLiteral) (x b : Int), l.drop x.toNat = ys → 0 ≤ x → l.length ≤ 1099511627776 → ∀ (Kx : Nat → Int → Int → Int → Int → List tLiteral → List tDecl → List tScope → Int → Prop) (Kr : Nat → Bool → Prop),
  (Ev (fun n => spec_SessionOk.l21 n a1 a2 a3 l d s next b x (Kx n) (Kr n)) ↔ if rise ys b = true then Ev (fun n => Kx n a1 a2 (lastId ys b) a3 l d s next) else Ev (fun n => Kr n false))
 | [], x, b, h, h0, hl, Kx, Kr => by
  have := drop_nil h h0
  refine Ev.suc.trans ?_
  simp (disch := omega) only [spec_SessionOk.l21, spec_SessionOk.l21.b, if_neg, decide_eq_true_eq, Ev.s8 Kx, rise, lastId, if_true]
 | y :: ys, x, b, h, h0, hl, Kx, Kr => by
  obtain ⟨e1, e2, e3⟩ := drop_cons h h0
  have ih := idsS_lp (d := d) (s := s) (next := next) (a1 := a1) (a2 := a2) (a3 := a3) ys (x + 1) y.1 e3 (by omega) hl (fun n => Kx (n + 1)) (fun n => Kr (n + 1))
  refine Ev.suc.trans ?_
  simp (disch := omega) only [spec_SessionOk.l21, spec_SessionOk.l21.b, if_pos, decide_eq_true_eq, grd_dec2, e2, wrap64, Ev.iteI, Ev.s1 Kr, ih, Ev.s8 Kx, rise, lastId, Bool.and_eq_true]
  by_cases h2 : b < y.1
  ·rw [if_neg (by omega)]; simp only [h2, true_and]
  ·rw [if_pos (by omega), if_neg (fun h => h2 h.1)]
theorem litsS_lp2 {d : List tDecl} {s : List tScope} {next : Int} (hd : d.length ≤ 1099511627776) (hs : s.length ≤ 1048576) (hok : declsOk d = true) : ∀ (ys : List tScope) (k b tot last : Int), s.drop k.toNat = ys → 0 ≤ k → 0 ≤ b → scopesGo d.length ys b = true → (∀ y ∈ ys, LitG y.2) → 0 ≤ tot → tot + (allLits ys).length ≤ 1099511627776 → ∀ (Kx : Nat → Int → Int → List tDecl → List tScope → Int → Prop) (Kr : Nat → Bool → Prop),
  (Ev (fun n => spec_SessionOk.l12 n d.length tot last k d s next (Kx n) (Kr n)) ↔ if scopeLits d ys = true ∧ rise (allLits ys) last = true then Ev (fun n => Kx n (tot + (allLits ys).length) (lastId (allLits ys) last) d s next) else Ev (fun n => Kr n false))
 | [], k, b, tot, last, h, h0, hb, hg, hl, ht, ht', Kx, Kr => by
  have := drop_nil h h0
  refine Ev.suc.trans ?_
  simp (disch := omega) only [spec_SessionOk.l12, spec_SessionOk.l12.b, if_neg, decide_eq_true_eq, Ev.s5 Kx, scopeLits, allLits, rise, lastId, and_self, if_true, List.length_nil, Int.ofNat_zero, Int.natCast_zero, Int.add_zero]
 | y :: ys, k, b, tot, last, h, h0, hb, hg, hl, ht, ht', Kx, Kr => by
  obtain ⟨e1, e2, e3⟩ := drop_cons h h0
  rw [scopesGo, Bool.and_eq_true, decide_eq_true_eq] at hg
  have he := endOf_in (d := d) (r := ys) (b := y.1) (by omega) hg.2
  have el : (allLits (y :: ys)).length = y.2.length + (allLits ys).length := by rw [allLits, List.length_append]
  have ih := fun last' => litsS_lp2 (next := next) hd hs hok ys (k + 1) y.1 (tot + y.2.length) last' e3 (by omega) (by omega) hg.2 (fun z hz => hl z (List.mem_cons_of_mem _ hz)) (by omega) (by omega) (fun n => Kx (n + 1)) (fun n => Kr (n + 1))
  have eo : litsOk (d.take (endOf d ys).toNat) y.2 = litsI (d.take (endOf d ys).toNat) y.2 := by rw [litsOk, declsOk_take hok, Bool.true_and]
  have s1 := fun (R : Nat → Bool → Prop) => litsS_ev (d := d.take (endOf d ys).toNat) (l := y.2) (by rw [List.length_take]; omega) (hl y List.mem_cons_self) R
  have fin : Ev (fun n => spec_SessionOk.j3 (Kr (n + 1)) (fun x120q x121q x122q x123q x124q x125q x126q => spec_SessionOk.l12 n x120q x121q x122q x123q x124q x125q x126q (Kx (n + 1)) (Kr (n + 1))) (spec_SessionOk.l21 n) n d.length tot last k d s next (endOf d ys)) ↔ if scopeLits d (y :: ys) = true ∧ rise (allLits (y :: ys)) last = true then Ev (fun n => Kx n (tot + (allLits (y :: ys)).length) (lastId (allLits (y :: ys)) last) d s next) else Ev (fun n => Kr n false) := by
   simp (disch := omega) only [spec_SessionOk.j3, grd_dec2, grd_dec3, e2, List.drop_zero, s1, eo, Ev.iteI, Bool.not_eq_true', Ev.s1 Kr]
   rw [idsS_lp y.2 0 last rfl (by omega) (by omega)]
   simp (disch := omega) only [wrap64, ih, Ev.s1 Kr, Ev.s5 Kx, scopeLits, allLits, rise_app, lastId_app, Bool.and_eq_true, el, Int.natCast_add]
   rw [show tot + ((y.2 ++ allLits ys).length : Nat) = tot + y.2.length + (allLits ys).length from by rw [List.length_append]; omega]
   cases litsI (d.take (endOf d ys).toNat) y.2
   ·simp
   ·cases rise y.2 last <;> simp
  refine Ev.suc.trans (Iff.trans ?_ fin)
  simp (disch := omega) only [spec_SessionOk.l12, spec_SessionOk.l12.b, if_pos, decide_eq_true_eq, wrap64]
  by_cases h : k + 1 < (s.length : Int)
  ·have e : ys = rd s (k + 1).toNat :: s.drop ((k + 1).toNat + 1) := by
    rw [← e3, List.drop_eq_getElem_cons (by omega)]
    congr 1
    rw [rd, List.getD_eq_getElem?_getD, List.getElem?_eq_getElem (by omega)]; rfl
   have e' : (rd s (k + 1).toNat).1 = endOf d ys := by rw [e]; rfl
   simp (disch := omega) only [if_pos, grd_dec2, e']
  ·have e' : (d.length : Int) = endOf d ys := by rw [← e3, List.drop_eq_nil_of_le (by omega)]; rfl
   simp (disch := omega) only [if_neg]
   rw [← e']
theorem sessionOkS_ev {d : List tDecl} {s : List tScope} {next : Int} (hd : d.length ≤ 1099511627776) (hs : s.length ≤ 1048576) (hb : (allLits s).length ≤ 1048576) (hg : ∀ y ∈ s, LitG y.2) (R : Nat → Bool → Prop) :
  Ev (fun n => spec_SessionOk.c n d s next (R n)) ↔ Ev (fun n => R n (sessionOk d s next)) := by
 refine Ev.suc.trans ?_
 simp only [spec_SessionOk.c, spec_SessionOk.w, declsOkS_ev, Ev.iteI, decide_eq_true_eq, decide_eq_false_iff_not, Bool.not_eq_false', Bool.not_eq_true', Ev.s1 R, sessionOk]
 by_cases h1 : declsOk d = true
 rotate_left
 ·rw [if_neg h1, show declsOk d = false from by simpa using h1]; simp
 rw [if_pos h1]
 by_cases h2 : 1 ≤ s.length ∧ s.length ≤ 20
 rotate_left
 ·rw [show decide (1 ≤ s.length ∧ s.length ≤ 20) = false from by rw [decide_eq_false_iff_not]; exact h2]
  simp only [Bool.and_false, Bool.false_and]
  split
  ·rw [if_neg (by omega)]
  ·rfl
 rw [if_pos (by omega), if_pos (by omega)]
 simp (disch := omega) only [grd_dec, l1In_ev, Ev.iteI, Bool.not_eq_false', Bool.not_eq_true', decide_eq_true_eq, decide_eq_false_iff_not, Ev.s1 R]
 by_cases h5 : (rd s 0).1 = 0
 rotate_left
 ·rw [if_neg h5, show decide ((rd s 0).1 = 0) = false from by rw [decide_eq_false_iff_not]; exact h5]; simp
 rw [if_pos h5]
 by_cases h3 : 1 ≤ next ∧ next ≤ 1000000
 rotate_left
 ·rw [if_pos h3, show decide (1 ≤ next ∧ next ≤ 1000000) = false from by rw [decide_eq_false_iff_not]; exact h3]; simp
 rw [if_neg (fun h => h h3)]
 simp only [spec_SessionOk.j4]
 rw [scopesS_lp hs (s.drop 1) 1 0 rfl (by omega) h5]
 have hgo : scopesGo d.length s 0 = scopesGo d.length (s.drop 1) 0 := by
  cases s with
  | nil => simp at h2
  | cons y s =>
   have h5' : y.1 = 0 := h5
   rw [scopesGo, h5']
   simp
 simp only [h1, h2, h3, h5, and_self, decide_true, Bool.true_and]
 by_cases h4 : scopesGo d.length s 0 = true
 rotate_left
 ·rw [if_neg (by rw [← hgo]; exact h4), show scopesGo (d.length : Int) s 0 = false from by simpa using h4]; simp [Ev.s1 R]
 rw [if_pos (by rw [← hgo]; exact h4), litsS_lp2 hd hs h1 s 0 0 0 0 rfl (by omega) (by omega) h4 hg (by omega) (by omega)]
 simp only [h4, Bool.true_and, Int.zero_add, Ev.iteI, decide_eq_true_eq]
 by_cases h6 : scopeLits d s = true
 rotate_left
 ·rw [if_neg (fun h => h6 h.1), show scopeLits d s = false from by simpa using h6]; simp [Ev.s1 R]
 by_cases h8 : rise (allLits s) 0 = true
 rotate_left
 ·rw [if_neg (fun h => h8 h.2), show rise (allLits s) 0 = false from by simpa using h8]; simp [Ev.s1 R]
 rw [if_pos ⟨h6, h8⟩, h6, h8, Bool.true_and, Bool.and_true]
 by_cases h7 : (allLits s).length ≤ 60
 ·rw [if_pos (by omega)]; simp [h7, Ev.s1 R]
 ·rw [if_neg (by omega)]; simp [h7, Ev.s1 R]
end Go.Vsi
end

section
set_option linter.unusedVariables false
set_option linter.unusedSimpArgs false
namespace Go.Vsi
def decGo : Nat → Int → List UInt8 → List UInt8
 | 0, _, out => out
 | f + 1, k, out => if k > 0 then decGo f (k / 10) (bytesStr [48 + k % 10] ++ out) else out
theorem decGo_len : ∀ (f : Nat) (k : Int) (out : List UInt8), (decGo f k out).length ≤ out.length + f
 | 0, k, out => Nat.le_refl _
 | f + 1, k, out => by
  rw [decGo]
  split
  ·have := decGo_len f (k / 10) (bytesStr [48 + k % 10] ++ out)
   have e : (bytesStr [48 + k % 10]).length = 1 := rfl
   rw [List.length_append, e] at this
   omega
  ·omega
theorem digit_byte {k : Int} (h : 0 < k) (hb : k < 9223372036854775808) : IntKind.wrap .u8 (IntKind.wrap .i64 (48 + Int.tmod k 10)) = 48 + k % 10 := by
 rw [tmodP (by omega), wrap64 (by omega) (by omega), wrap8 (by omega) (by omega)]
theorem mText_lp : ∀ (f : Nat) (k : Int) (out : List UInt8), k < 10 ^ f → k < 9223372036854775808 → out.length + f ≤ 1000 → ∀ (Kx : Nat → List UInt8 → Prop),
  (Ev (fun n => laws_markText.l4 n k out (Kx n)) ↔ Ev (fun n => Kx n (decGo f k out)))
 | 0, k, out, h, hb, hl, Kx => by
  have h : k < 1 := h
  refine Ev.suc.trans ?_
  simp (disch := omega) only [laws_markText.l4, laws_markText.l4.b, if_neg, decide_eq_true_eq, Ev.s1 Kx, decGo]
 | f + 1, k, out, h, hb, hl, Kx => by
  rw [decGo]
  refine Ev.suc.trans ?_
  simp only [laws_markText.l4, laws_markText.l4.b, Ev.iteI, decide_eq_true_eq]
  by_cases hk : k > 0
  ·rw [if_pos hk, if_pos hk]
   have e : IntKind.wrap .i64 (Int.tdiv k 10) = k / 10 := by rw [tdivP (by omega), wrap64 (by omega) (by omega)]
   have hp : (10 : Int) ^ (f + 1) = 10 ^ f * 10 := Int.pow_succ 10 f
   simp (disch := (simp only [bytesStr, List.map_cons, List.map_nil, List.length_cons, List.length_nil]; omega)) only [digit_byte hk hb, e, grd_dec]
   rw [mText_lp f (k / 10) _ (by omega) (by omega) (by simp only [bytesStr, List.map_cons, List.map_nil, List.length_append, List.length_cons, List.length_nil]; omega), Ev.s1 Kx]
  ·rw [if_neg hk, if_neg hk, Ev.s1 Kx]
def mText (k : Int) : List UInt8 := [109] ++ decGo 19 k []
theorem markText_ev {k : Int} (h : 0 < k) (hb : k ≤ 4611686018427387904) (R : Nat → List UInt8 → Prop) :
  Ev (fun n => laws_markText.c n k (R n)) ↔ Ev (fun n => R n (mText k)) := by
 refine Ev.suc.trans ?_
 have := decGo_len 19 k []
 simp only [List.length_nil] at this
 simp only [laws_markText.c, laws_markText.w, Ev.iteI, decide_eq_true_eq]
 rw [if_neg (by omega), mText_lp 19 k [] (by omega) (by omega) (by simp)]
 simp (disch := (simp only [List.length_cons, List.length_nil]; omega)) only [grd_dec, Ev.s1 R, mText]
end Go.Vsi
end

section
set_option linter.unusedVariables false
set_option linter.unusedSimpArgs false
set_option synthInstance.maxSize 4096
namespace Go.Vsi
theorem laws_szDecl_ev {a0 : List UInt8} {a1 : Int} {left : Int} (h0 : -1 ≤ left) (h1 : left ≤ 1099511627776) (h2 : a0.length ≤ 9223372036854775807) (R : Nat → Int → Prop) :
  Ev (fun n => laws_szDecl.c n a0 a1 left (R n)) ↔ Ev (fun n => R n (szr left (a0.length))) := by
 refine Ev.suc.trans ?_
 simp (disch := first | assumption | omega | exact szr_m1 (by assumption) | exact szr_le' (by assumption) (by assumption)) only [laws_szDecl.c, laws_szDecl.w, wrap64, Ev.iteI, decide_eq_true_eq, Ev.s1 R]
 unfold szr; (repeat' split) <;> first | rfl | (exfalso; omega) | exact ev_arg (by omega)
def sDeclS : List tDecl → Nat
 | [] => 0
 | y :: r => y.1.length + sDeclS r
theorem sDeclS_mem {y : tDecl} : ∀ {l : List tDecl}, y ∈ l → y.1.length ≤ sDeclS l
 | [], h => absurd h List.not_mem_nil
 | a :: l, h => by
  rw [sDeclS]
  rcases List.mem_cons.1 h with rfl | h
  ·omega
  ·have := sDeclS_mem h; omega
abbrev yDecl : Ty := .prod .str (.int .i64)
theorem szDeclS_gd {l : List tDecl} (h : Gd (.sl 0 yDecl) l) : ∀ y : tDecl, y ∈ l → y.1.length ≤ 9223372036854775807 := fun y hy => (h.2 y hy).1
theorem laws_szDeclS_lp {l : List tDecl} (hl : l.length ≤ 9223372036854775807) : ∀ (ys : List tDecl) (x left : Int), l.drop x.toNat = ys → 0 ≤ x → 0 ≤ left → left ≤ 1099511627776 → (∀ y ∈ ys, y.1.length ≤ 9223372036854775807) → ∀ (Kx : Nat → Int → Prop),
  (Ev (fun n => laws_szDeclS.l5 n l left x (Kx n) (Kx n)) ↔ Ev (fun n => Kx n (szr left (sDeclS ys))))
 | [], x, left, h, h0, h1, h2, hy, Kx => by
  have := drop_nil h h0
  refine Ev.suc.trans ?_
  simp (disch := omega) only [laws_szDeclS.l5, laws_szDeclS.l5.b, if_neg, decide_eq_true_eq, Ev.s1 Kx, sDeclS]
  refine ev_arg ?_; unfold szr; split <;> omega
 | y :: ys, x, left, h, h0, h1, h2, hy, Kx => by
  obtain ⟨e1, e2, e3⟩ := drop_cons h h0
  have hy0 := hy y List.mem_cons_self
  refine Ev.suc.trans ?_
  simp (disch := first | assumption | exact hy0.1 | exact hy0.2 | exact hy0.2.1 | exact hy0.2.2 | exact hy0.2.2.1 | exact hy0.2.2.2 | omega) only [laws_szDeclS.l5, laws_szDeclS.l5.b, if_pos, decide_eq_true_eq, Ev.s1 Kx, grd_dec2, e2, laws_szDecl_ev, Ev.iteI, wrap64]
  split
  ·rename_i hs
   rw [sDeclS, szr_back hs]
  ·rename_i hs
   rw [laws_szDeclS_lp hl ys (x + 1) _ e3 (by omega) (by omega) (szr_le' (by omega) h2) (fun y hy' => hy y (List.mem_cons_of_mem _ hy')), sDeclS, szr_two h1 hs, Ev.s1 Kx]
theorem laws_szDeclS_ev {l : List tDecl} {left : Int} (h0 : -1 ≤ left) (h1 : left ≤ 1099511627776) (hl : l.length ≤ 9223372036854775807) (hy : ∀ y ∈ l, y.1.length ≤ 9223372036854775807) (R : Nat → Int → Prop) :
  Ev (fun n => laws_szDeclS.c n l left (R n)) ↔ Ev (fun n => R n (szr left (l.length + sDeclS l))) := by
 refine Ev.suc.trans ?_
 simp (disch := omega) only [laws_szDeclS.c, laws_szDeclS.w, wrap64, Ev.iteI, decide_eq_true_eq, Ev.s1 R]
 split
 ·refine ev_arg ?_; unfold szr; split <;> omega
 ·rw [laws_szDeclS_lp hl l 0 _ rfl (by omega) (by omega) (by omega) hy, Ev.s1 R]
  refine ev_arg ?_; unfold szr; (repeat' split) <;> omega
theorem laws_szUint64S_ev {l : List Int} {left : Int} (h0 : -1 ≤ left) (h1 : left ≤ 1099511627776) (hl : l.length ≤ 9223372036854775807) (R : Nat → Int → Prop) :
  Ev (fun n => laws_szUint64S.c n l left (R n)) ↔ Ev (fun n => R n (szr left l.length)) := by
 refine Ev.suc.trans ?_
 simp (disch := omega) only [laws_szUint64S.c, laws_szUint64S.w, wrap64, Ev.iteI, decide_eq_true_eq, Ev.s1 R]
 unfold szr; split <;> split <;> first | rfl | omega | exact ev_arg (by omega)
theorem laws_szBits_ev {a0 : Int} {a1 : List Int} {left : Int} (h0 : -1 ≤ left) (h1 : left ≤ 1099511627776) (h2 : a1.length ≤ 9223372036854775807) (R : Nat → Int → Prop) :
  Ev (fun n => laws_szBits.c n a0 a1 left (R n)) ↔ Ev (fun n => R n (szr left (a1.length))) := by
 refine Ev.suc.trans ?_
 simp (disch := first | assumption | omega | exact szr_m1 (by assumption) | exact szr_le' (by assumption) (by assumption)) only [laws_szBits.c, laws_szBits.w, laws_szUint64S_ev, wrap64, Ev.iteI, decide_eq_true_eq, Ev.s1 R]
 unfold szr; (repeat' split) <;> first | rfl | (exfalso; omega) | exact ev_arg (by omega)
theorem laws_szInt64S_ev {l : List Int} {left : Int} (h0 : -1 ≤ left) (h1 : left ≤ 1099511627776) (hl : l.length ≤ 9223372036854775807) (R : Nat → Int → Prop) :
  Ev (fun n => laws_szInt64S.c n l left (R n)) ↔ Ev (fun n => R n (szr left l.length)) := by
 refine Ev.suc.trans ?_
 simp (disch := omega) only [laws_szInt64S.c, laws_szInt64S.w, wrap64, Ev.iteI, decide_eq_true_eq, Ev.s1 R]
 unfold szr; split <;> split <;> first | rfl | omega | exact ev_arg (by omega)
theorem laws_szTNode_ev {a0 : Int} {a1 : Int} {a2 : Int} {a3 : Int} {a4 : Int} {a5 : List Int} {a6 : List Int} {left : Int} (h0 : -1 ≤ left) (h1 : left ≤ 1099511627776) (h2 : a5.length ≤ 9223372036854775807) (h3 : a6.length ≤ 9223372036854775807) (R : Nat → Int → Prop) :
  Ev (fun n => laws_szTNode.c n a0 a1 a2 a3 a4 a5 a6 left (R n)) ↔ Ev (fun n => R n (szr left (a5.length + a6.length))) := by
 refine Ev.suc.trans ?_
 simp (disch := first | assumption | omega | exact szr_m1 (by assumption) | exact szr_le' (by assumption) (by assumption)) only [laws_szTNode.c, laws_szTNode.w, laws_szBits_ev, laws_szInt64S_ev, wrap64, Ev.iteI, decide_eq_true_eq, Ev.s1 R]
 unfold szr; (repeat' split) <;> first | rfl | (exfalso; omega) | exact ev_arg (by omega)
def sTNodeS : List tTNode → Nat
 | [] => 0
 | y :: r => (y.2.2.2.2.2.1.length + y.2.2.2.2.2.2.length) + sTNodeS r
theorem sTNodeS_mem {y : tTNode} : ∀ {l : List tTNode}, y ∈ l → y.2.2.2.2.2.1.length + y.2.2.2.2.2.2.length ≤ sTNodeS l
 | [], h => absurd h List.not_mem_nil
 | a :: l, h => by
  rw [sTNodeS]
  rcases List.mem_cons.1 h with rfl | h
  ·omega
  ·have := sTNodeS_mem h; omega
abbrev yTNode : Ty := .prod (.int .i64) (.prod (.int .i64) (.prod (.int .i64) (.prod (.int .i64) (.prod (.int .i64) (.prod (.sl 0 (.int .u64)) (.sl 0 (.int .i64)))))))
theorem laws_szTNodeS_lp {l : List tTNode} (hl : l.length ≤ 9223372036854775807) : ∀ (ys : List tTNode) (x left : Int), l.drop x.toNat = ys → 0 ≤ x → 0 ≤ left → left ≤ 1099511627776 → (∀ y ∈ ys, y.2.2.2.2.2.1.length ≤ 9223372036854775807 ∧ y.2.2.2.2.2.2.length ≤ 9223372036854775807) → ∀ (Kx : Nat → Int → Prop),
  (Ev (fun n => laws_szTNodeS.l5 n l left x (Kx n) (Kx n)) ↔ Ev (fun n => Kx n (szr left (sTNodeS ys))))
 | [], x, left, h, h0, h1, h2, hy, Kx => by
  have := drop_nil h h0
  refine Ev.suc.trans ?_
  simp (disch := omega) only [laws_szTNodeS.l5, laws_szTNodeS.l5.b, if_neg, decide_eq_true_eq, Ev.s1 Kx, sTNodeS]
  refine ev_arg ?_; unfold szr; split <;> omega
 | y :: ys, x, left, h, h0, h1, h2, hy, Kx => by
  obtain ⟨e1, e2, e3⟩ := drop_cons h h0
  have hy0 := hy y List.mem_cons_self
  refine Ev.suc.trans ?_
  simp (disch := first | assumption | exact hy0.1 | exact hy0.2 | exact hy0.2.1 | exact hy0.2.2 | exact hy0.2.2.1 | exact hy0.2.2.2 | omega) only [laws_szTNodeS.l5, laws_szTNodeS.l5.b, if_pos, decide_eq_true_eq, Ev.s1 Kx, grd_dec2, e2, laws_szTNode_ev, Ev.iteI, wrap64]
  split
  ·rename_i hs
   rw [sTNodeS, szr_back hs]
  ·rename_i hs
   rw [laws_szTNodeS_lp hl ys (x + 1) _ e3 (by omega) (by omega) (szr_le' (by omega) h2) (fun y hy' => hy y (List.mem_cons_of_mem _ hy')), sTNodeS, szr_two h1 hs, Ev.s1 Kx]
theorem laws_szTNodeS_ev {l : List tTNode} {left : Int} (h0 : -1 ≤ left) (h1 : left ≤ 1099511627776) (hl : l.length ≤ 9223372036854775807) (hy : ∀ y ∈ l, y.2.2.2.2.2.1.length ≤ 9223372036854775807 ∧ y.2.2.2.2.2.2.length ≤ 9223372036854775807) (R : Nat → Int → Prop) :
  Ev (fun n => laws_szTNodeS.c n l left (R n)) ↔ Ev (fun n => R n (szr left (l.length + sTNodeS l))) := by
 refine Ev.suc.trans ?_
 simp (disch := omega) only [laws_szTNodeS.c, laws_szTNodeS.w, wrap64, Ev.iteI, decide_eq_true_eq, Ev.s1 R]
 split
 ·refine ev_arg ?_; unfold szr; split <;> omega
 ·rw [laws_szTNodeS_lp hl l 0 _ rfl (by omega) (by omega) (by omega) hy, Ev.s1 R]
  refine ev_arg ?_; unfold szr; (repeat' split) <;> omega
theorem laws_szTerm_ev {a0 : List (Int × Int × Int × Int × Int × List (Int) × List (Int))} {left : Int} (h0 : -1 ≤ left) (h1 : left ≤ 1099511627776) (h2 : a0.length ≤ 9223372036854775807) (h3 : (∀ y : tTNode, y ∈ a0 → y.2.2.2.2.2.1.length ≤ 9223372036854775807 ∧ y.2.2.2.2.2.2.length ≤ 9223372036854775807)) (R : Nat → Int → Prop) :
  Ev (fun n => laws_szTerm.c n a0 left (R n)) ↔ Ev (fun n => R n (szr left ((a0.length + sTNodeS a0)))) := by
 refine Ev.suc.trans ?_
 simp (disch := first | assumption | omega | exact szr_m1 (by assumption) | exact szr_le' (by assumption) (by assumption)) only [laws_szTerm.c, laws_szTerm.w, laws_szTNodeS_ev, wrap64, Ev.iteI, decide_eq_true_eq, Ev.s1 R]
 unfold szr; (repeat' split) <;> first | rfl | (exfalso; omega) | exact ev_arg (by omega)
theorem laws_szLiteral_ev {a0 : Int} {a1 : Bool} {a2 : List (Int × Int × Int × Int × Int × List (Int) × List (Int))} {a3 : List (Int × Int × Int × Int × Int × List (Int) × List (Int))} {left : Int} (h0 : -1 ≤ left) (h1 : left ≤ 1099511627776) (h2 : a2.length ≤ 9223372036854775807) (h3 : (∀ y : tTNode, y ∈ a2 → y.2.2.2.2.2.1.length ≤ 9223372036854775807 ∧ y.2.2.2.2.2.2.length ≤ 9223372036854775807)) (h4 : a3.length ≤ 9223372036854775807) (h5 : (∀ y : tTNode, y ∈ a3 → y.2.2.2.2.2.1.length ≤ 9223372036854775807 ∧ y.2.2.2.2.2.2.length ≤ 9223372036854775807)) (R : Nat → Int → Prop) :
  Ev (fun n => laws_szLiteral.c n a0 a1 a2 a3 left (R n)) ↔ Ev (fun n => R n (szr left (((a2.length + sTNodeS a2)) + ((a3.length + sTNodeS a3))))) := by
 refine Ev.suc.trans ?_
 simp (disch := first | assumption | omega | exact szr_m1 (by assumption) | exact szr_le' (by assumption) (by assumption)) only [laws_szLiteral.c, laws_szLiteral.w, laws_szTerm_ev, wrap64, Ev.iteI, decide_eq_true_eq, Ev.s1 R]
 unfold szr; (repeat' split) <;> first | rfl | (exfalso; omega) | exact ev_arg (by omega)
def sLiteralS : List tLiteral → Nat
 | [] => 0
 | y :: r => (((y.2.2.1.length + sTNodeS y.2.2.1)) + ((y.2.2.2.length + sTNodeS y.2.2.2))) + sLiteralS r
theorem sLiteralS_mem {y : tLiteral} : ∀ {l : List tLiteral}, y ∈ l → ((y.2.2.1.length + sTNodeS y.2.2.1)) + ((y.2.2.2.length + sTNodeS y.2.2.2)) ≤ sLiteralS l
 | [], h => absurd h List.not_mem_nil
 | a :: l, h => by
  rw [sLiteralS]
  rcases List.mem_cons.1 h with rfl | h
  ·omega
  ·have := sLiteralS_mem h; omega
abbrev yLiteral : Ty := .prod (.int .i64) (.prod .bool (.prod (.sl 0 (.prod (.int .i64) (.prod (.int .i64) (.prod (.int .i64) (.prod (.int .i64) (.prod (.int .i64) (.prod (.sl 0 (.int .u64)) (.sl 0 (.int .i64))))))))) (.sl 0 (.prod (.int .i64) (.prod (.int .i64) (.prod (.int .i64) (.prod (.int .i64) (.prod (.int .i64) (.prod (.sl 0 (.int .u64)) (.sl 0 (.int .i64)))))))))))
theorem laws_szLiteralS_lp {l : List tLiteral} (hl : l.length ≤ 9223372036854775807) : ∀ (ys : List tLiteral) (x left : Int), l.drop x.toNat = ys → 0 ≤ x → 0 ≤ left → left ≤ 1099511627776 → (∀ y ∈ ys, y.2.2.1.length ≤ 9223372036854775807 ∧ (∀ z : tTNode, z ∈ y.2.2.1 → z.2.2.2.2.2.1.length ≤ 9223372036854775807 ∧ z.2.2.2.2.2.2.length ≤ 9223372036854775807) ∧ y.2.2.2.length ≤ 9223372036854775807 ∧ (∀ z : tTNode, z ∈ y.2.2.2 → z.2.2.2.2.2.1.length ≤ 9223372036854775807 ∧ z.2.2.2.2.2.2.length ≤ 9223372036854775807)) → ∀ (Kx : Nat → Int → Prop),
  (Ev (fun n => laws_szLiteralS.l5 n l left x (Kx n) (Kx n)) ↔ Ev (fun n => Kx n (szr left (sLiteralS ys))))
 | [], x, left, h, h0, h1, h2, hy, Kx => by
  have := drop_nil h h0
  refine Ev.suc.trans ?_
  simp (disch := omega) only [laws_szLiteralS.l5, laws_szLiteralS.l5.b, if_neg, decide_eq_true_eq, Ev.s1 Kx, sLiteralS]
  refine ev_arg ?_; unfold szr; split <;> omega
 | y :: ys, x, left, h, h0, h1, h2, hy, Kx => by
  obtain ⟨e1, e2, e3⟩ := drop_cons h h0
  have hy0 := hy y List.mem_cons_self
  refine Ev.suc.trans ?_
  simp (disch := first | assumption | exact hy0.1 | exact hy0.2 | exact hy0.2.1 | exact hy0.2.2 | exact hy0.2.2.1 | exact hy0.2.2.2 | omega) only [laws_szLiteralS.l5, laws_szLiteralS.l5.b, if_pos, decide_eq_true_eq, Ev.s1 Kx, grd_dec2, e2, laws_szLiteral_ev, Ev.iteI, wrap64]
  split
  ·rename_i hs
   rw [sLiteralS, szr_back hs]
  ·rename_i hs
   rw [laws_szLiteralS_lp hl ys (x + 1) _ e3 (by omega) (by omega) (szr_le' (by omega) h2) (fun y hy' => hy y (List.mem_cons_of_mem _ hy')), sLiteralS, szr_two h1 hs, Ev.s1 Kx]
theorem laws_szLiteralS_ev {l : List tLiteral} {left : Int} (h0 : -1 ≤ left) (h1 : left ≤ 1099511627776) (hl : l.length ≤ 9223372036854775807) (hy : ∀ y ∈ l, y.2.2.1.length ≤ 9223372036854775807 ∧ (∀ z : tTNode, z ∈ y.2.2.1 → z.2.2.2.2.2.1.length ≤ 9223372036854775807 ∧ z.2.2.2.2.2.2.length ≤ 9223372036854775807) ∧ y.2.2.2.length ≤ 9223372036854775807 ∧ (∀ z : tTNode, z ∈ y.2.2.2 → z.2.2.2.2.2.1.length ≤ 9223372036854775807 ∧ z.2.2.2.2.2.2.length ≤ 9223372036854775807)) (R : Nat → Int → Prop) :
  Ev (fun n => laws_szLiteralS.c n l left (R n)) ↔ Ev (fun n => R n (szr left (l.length + sLiteralS l))) := by
 refine Ev.suc.trans ?_
 simp (disch := omega) only [laws_szLiteralS.c, laws_szLiteralS.w, wrap64, Ev.iteI, decide_eq_true_eq, Ev.s1 R]
 split
 ·refine ev_arg ?_; unfold szr; split <;> omega
 ·rw [laws_szLiteralS_lp hl l 0 _ rfl (by omega) (by omega) (by omega) hy, Ev.s1 R]
  refine ev_arg ?_; unfold szr; (repeat' split) <;> omega
theorem laws_szScope_ev {a0 : Int} {a1 : List (Int × Bool × List (Int × Int × Int × Int × Int × List (Int) × List (Int)) × List (Int × Int × Int × Int × Int × List (Int) × List (Int)))} {left : Int} (h0 : -1 ≤ left) (h1 : left ≤ 1099511627776) (h2 : a1.length ≤ 9223372036854775807) (h3 : (∀ y : tLiteral, y ∈ a1 → y.2.2.1.length ≤ 9223372036854775807 ∧ (∀ z : tTNode, z ∈ y.2.2.1 → z.2.2.2.2.2.1.length ≤ 9223372036854775807 ∧ z.2.2.2.2.2.2.length ≤ 9223372036854775807) ∧ y.2.2.2.length ≤ 9223372036854775807 ∧ (∀ z : tTNode, z ∈ y.2.2.2 → z.2.2.2.2.2.1.length ≤ 9223372036854775807 ∧ z.2.2.2.2.2.2.length ≤ 9223372036854775807))) (R : Nat → Int → Prop) :
  Ev (fun n => laws_szScope.c n a0 a1 left (R n)) ↔ Ev (fun n => R n (szr left ((a1.length + sLiteralS a1)))) := by
 refine Ev.suc.trans ?_
 simp (disch := first | assumption | omega | exact szr_m1 (by assumption) | exact szr_le' (by assumption) (by assumption)) only [laws_szScope.c, laws_szScope.w, laws_szLiteralS_ev, wrap64, Ev.iteI, decide_eq_true_eq, Ev.s1 R]
 unfold szr; (repeat' split) <;> first | rfl | (exfalso; omega) | exact ev_arg (by omega)
def sScopeS : List tScope → Nat
 | [] => 0
 | y :: r => ((y.2.length + sLiteralS y.2)) + sScopeS r
theorem sScopeS_mem {y : tScope} : ∀ {l : List tScope}, y ∈ l → (y.2.length + sLiteralS y.2) ≤ sScopeS l
 | [], h => absurd h List.not_mem_nil
 | a :: l, h => by
  rw [sScopeS]
  rcases List.mem_cons.1 h with rfl | h
  ·omega
  ·have := sScopeS_mem h; omega
abbrev yScope : Ty := .prod (.int .i64) (.sl 0 (.prod (.int .i64) (.prod .bool (.prod (.sl 0 (.prod (.int .i64) (.prod (.int .i64) (.prod (.int .i64) (.prod (.int .i64) (.prod (.int .i64) (.prod (.sl 0 (.int .u64)) (.sl 0 (.int .i64))))))))) (.sl 0 (.prod (.int .i64) (.prod (.int .i64) (.prod (.int .i64) (.prod (.int .i64) (.prod (.int .i64) (.prod (.sl 0 (.int .u64)) (.sl 0 (.int .i64)))))))))))))
theorem szScopeS_gd {l : List tScope} (h : Gd (.sl 0 yScope) l) : ∀ y : tScope, y ∈ l → y.2.length ≤ 9223372036854775807 ∧ (∀ z : tLiteral, z ∈ y.2 → z.2.2.1.length ≤ 9223372036854775807 ∧ (∀ w : tTNode, w ∈ z.2.2.1 → w.2.2.2.2.2.1.length ≤ 9223372036854775807 ∧ w.2.2.2.2.2.2.length ≤ 9223372036854775807) ∧ z.2.2.2.length ≤ 9223372036854775807 ∧ (∀ w : tTNode, w ∈ z.2.2.2 → w.2.2.2.2.2.1.length ≤ 9223372036854775807 ∧ w.2.2.2.2.2.2.length ≤ 9223372036854775807)) := fun y hy => ⟨(h.2 y hy).2.1, (fun z hz => ⟨((h.2 y hy).2.2 z hz).2.2.1.1, (fun w hw => ⟨(((h.2 y hy).2.2 z hz).2.2.1.2 w hw).2.2.2.2.2.1.1, (((h.2 y hy).2.2 z hz).2.2.1.2 w hw).2.2.2.2.2.2.1⟩), ((h.2 y hy).2.2 z hz).2.2.2.1, (fun w hw => ⟨(((h.2 y hy).2.2 z hz).2.2.2.2 w hw).2.2.2.2.2.1.1, (((h.2 y hy).2.2 z hz).2.2.2.2 w hw).2.2.2.2.2.2.1⟩)⟩)⟩
theorem laws_szScopeS_lp {l : List tScope} (hl : l.length ≤ 9223372036854775807) : ∀ (ys : List tScope) (x left : Int), l.drop x.toNat = ys → 0 ≤ x → 0 ≤ left → left ≤ 1099511627776 → (∀ y ∈ ys, y.2.length ≤ 9223372036854775807 ∧ (∀ z : tLiteral, z ∈ y.2 → z.2.2.1.length ≤ 9223372036854775807 ∧ (∀ w : tTNode, w ∈ z.2.2.1 → w.2.2.2.2.2.1.length ≤ 9223372036854775807 ∧ w.2.2.2.2.2.2.length ≤ 9223372036854775807) ∧ z.2.2.2.length ≤ 9223372036854775807 ∧ (∀ w : tTNode, w ∈ z.2.2.2 → w.2.2.2.2.2.1.length ≤ 9223372036854775807 ∧ w.2.2.2.2.2.2.length ≤ 9223372036854775807))) → ∀ (Kx : Nat → Int → Prop),
  (Ev (fun n => laws_szScopeS.l5 n l left x (Kx n) (Kx n)) ↔ Ev (fun n => Kx n (szr left (sScopeS ys))))
 | [], x, left, h, h0, h1, h2, hy, Kx => by
  have := drop_nil h h0
  refine Ev.suc.trans ?_
  simp (disch := omega) only [laws_szScopeS.l5, laws_szScopeS.l5.b, if_neg, decide_eq_true_eq, Ev.s1 Kx, sScopeS]
  refine ev_arg ?_; unfold szr; split <;> omega
 | y :: ys, x, left, h, h0, h1, h2, hy, Kx => by
  obtain ⟨e1, e2, e3⟩ := drop_cons h h0
  have hy0 := hy y List.mem_cons_self
  refine Ev.suc.trans ?_
  simp (disch := first | assumption | exact hy0.1 | exact hy0.2 | exact hy0.2.1 | exact hy0.2.2 | exact hy0.2.2.1 | exact hy0.2.2.2 | omega) only [laws_szScopeS.l5, laws_szScopeS.l5.b, if_pos, decide_eq_true_eq, Ev.s1 Kx, grd_dec2, e2, laws_szScope_ev, Ev.iteI, wrap64]
  split
  ·rename_i hs
   rw [sScopeS, szr_back hs]
  ·rename_i hs
   rw [laws_szScopeS_lp hl ys (x + 1) _ e3 (by omega) (by omega) (szr_le' (by omega) h2) (fun y hy' => hy y (List.mem_cons_of_mem _ hy')), sScopeS, szr_two h1 hs, Ev.s1 Kx]
theorem laws_szScopeS_ev {l : List tScope} {left : Int} (h0 : -1 ≤ left) (h1 : left ≤ 1099511627776) (hl : l.length ≤ 9223372036854775807) (hy : ∀ y ∈ l, y.2.length ≤ 9223372036854775807 ∧ (∀ z : tLiteral, z ∈ y.2 → z.2.2.1.length ≤ 9223372036854775807 ∧ (∀ w : tTNode, w ∈ z.2.2.1 → w.2.2.2.2.2.1.length ≤ 9223372036854775807 ∧ w.2.2.2.2.2.2.length ≤ 9223372036854775807) ∧ z.2.2.2.length ≤ 9223372036854775807 ∧ (∀ w : tTNode, w ∈ z.2.2.2 → w.2.2.2.2.2.1.length ≤ 9223372036854775807 ∧ w.2.2.2.2.2.2.length ≤ 9223372036854775807))) (R : Nat → Int → Prop) :
  Ev (fun n => laws_szScopeS.c n l left (R n)) ↔ Ev (fun n => R n (szr left (l.length + sScopeS l))) := by
 refine Ev.suc.trans ?_
 simp (disch := omega) only [laws_szScopeS.c, laws_szScopeS.w, wrap64, Ev.iteI, decide_eq_true_eq, Ev.s1 R]
 split
 ·refine ev_arg ?_; unfold szr; split <;> omega
 ·rw [laws_szScopeS_lp hl l 0 _ rfl (by omega) (by omega) (by omega) hy, Ev.s1 R]
  refine ev_arg ?_; unfold szr; (repeat' split) <;> omega
theorem laws_szSession_ev {a0 : List (List UInt8 × Int)} {a1 : List (Int × List (Int × Bool × List (Int × Int × Int × Int × Int × List (Int) × List (Int)) × List (Int × Int × Int × Int × Int × List (Int) × List (Int))))} {a2 : Int} {left : Int} (h0 : -1 ≤ left) (h1 : left ≤ 1099511627776) (h2 : a0.length ≤ 9223372036854775807) (h3 : (∀ y : tDecl, y ∈ a0 → y.1.length ≤ 9223372036854775807)) (h4 : a1.length ≤ 9223372036854775807) (h5 : (∀ y : tScope, y ∈ a1 → y.2.length ≤ 9223372036854775807 ∧ (∀ z : tLiteral, z ∈ y.2 → z.2.2.1.length ≤ 9223372036854775807 ∧ (∀ w : tTNode, w ∈ z.2.2.1 → w.2.2.2.2.2.1.length ≤ 9223372036854775807 ∧ w.2.2.2.2.2.2.length ≤ 9223372036854775807) ∧ z.2.2.2.length ≤ 9223372036854775807 ∧ (∀ w : tTNode, w ∈ z.2.2.2 → w.2.2.2.2.2.1.length ≤ 9223372036854775807 ∧ w.2.2.2.2.2.2.length ≤ 9223372036854775807)))) (R : Nat → Int → Prop) :
  Ev (fun n => laws_szSession.c n a0 a1 a2 left (R n)) ↔ Ev (fun n => R n (szr left ((a0.length + sDeclS a0) + (a1.length + sScopeS a1)))) := by
 refine Ev.suc.trans ?_
 simp (disch := first | assumption | omega | exact szr_m1 (by assumption) | exact szr_le' (by assumption) (by assumption)) only [laws_szSession.c, laws_szSession.w, laws_szDeclS_ev, laws_szScopeS_ev, wrap64, Ev.iteI, decide_eq_true_eq, Ev.s1 R]
 unfold szr; (repeat' split) <;> first | rfl | (exfalso; omega) | exact ev_arg (by omega)
theorem laws_toDecl_ev {a0 : List UInt8} {a1 : Int} (h : a0.length ≤ 1048576) (R : Nat → List UInt8 → Int → Prop) :
  Ev (fun n => laws_toDecl.c n a0 a1 (R n)) ↔ Ev (fun n => R n a0 a1) := by
 refine Ev.suc.trans ?_
 simp (disch := omega) only [laws_toDecl.c, laws_toDecl.w, Ev.s2 R]
theorem laws_toDeclS_lp {l : List tDecl} (hl : l.length ≤ 1048576) : ∀ (ys : List tDecl) (x : Int) (o : List tDecl), l.drop x.toNat = ys → 0 ≤ x → o.length = l.length → (∀ y ∈ ys, y.1.length ≤ 1048576) → ∀ (Kx : Nat → List tDecl → Prop),
  (Ev (fun n => laws_toDeclS.l3 n l x o (Kx n)) ↔ Ev (fun n => Kx n (o.take x.toNat ++ ys)))
 | [], x, o, h, h0, ho, hy, Kx => by
  have := drop_nil h h0
  refine Ev.suc.trans ?_
  simp (disch := omega) only [laws_toDeclS.l3, laws_toDeclS.l3.b, if_neg, decide_eq_true_eq, Ev.s1 Kx]
  rw [List.take_of_length_le (by omega), List.append_nil]
 | y :: ys, x, o, h, h0, ho, hy, Kx => by
  obtain ⟨e1, e2, e3⟩ := drop_cons h h0
  have hy0 := hy y List.mem_cons_self
  refine Ev.suc.trans ?_
  simp (disch := omega) only [laws_toDeclS.l3, laws_toDeclS.l3.b, if_pos, decide_eq_true_eq, Ev.s1 Kx, grd_dec2, e2, wrap64, laws_toDecl_ev]
  rw [laws_toDeclS_lp hl ys (x + 1) _ e3 (by omega) (by simpa using ho) (fun y hy' => hy y (List.mem_cons_of_mem _ hy')), Ev.s1 Kx, take_set (by omega) (by omega), List.append_assoc]
  rfl
theorem laws_toDeclS_ev {l : List tDecl} (h : (l.length + sDeclS l) ≤ 1048576) (R : Nat → List tDecl → Prop) :
  Ev (fun n => laws_toDeclS.c n l (R n)) ↔ Ev (fun n => R n l) := by
 refine Ev.suc.trans ?_
 simp (disch := omega) only [laws_toDeclS.c, laws_toDeclS.w, grd_dec2, decide_true, Bool.and_true]
 rw [laws_toDeclS_lp (by omega) l 0 _ rfl (by omega) (by simp) (fun y hy => by have := sDeclS_mem hy; omega), Ev.s1 R]
 simp
theorem laws_toUint64S_lp {l : List Int} (hl : l.length ≤ 1048576) : ∀ (ys : List Int) (x : Int) (o : List Int), l.drop x.toNat = ys → 0 ≤ x → o.length = l.length → ∀ (Kx : Nat → List Int → Prop),
  (Ev (fun n => laws_toUint64S.l3 n l x o (Kx n)) ↔ Ev (fun n => Kx n (o.take x.toNat ++ ys)))
 | [], x, o, h, h0, ho, Kx => by
  have := drop_nil h h0
  refine Ev.suc.trans ?_
  simp (disch := omega) only [laws_toUint64S.l3, laws_toUint64S.l3.b, if_neg, decide_eq_true_eq, Ev.s1 Kx]
  rw [List.take_of_length_le (by omega), List.append_nil]
 | y :: ys, x, o, h, h0, ho, Kx => by
  obtain ⟨e1, e2, e3⟩ := drop_cons h h0
  refine Ev.suc.trans ?_
  simp (disch := omega) only [laws_toUint64S.l3, laws_toUint64S.l3.b, if_pos, decide_eq_true_eq, Ev.s1 Kx, grd_dec2, e2, wrap64]
  rw [laws_toUint64S_lp hl ys (x + 1) _ e3 (by omega) (by simpa using ho), Ev.s1 Kx, take_set (by omega) (by omega), List.append_assoc]
  rfl
theorem laws_toUint64S_ev {l : List Int} (h : l.length ≤ 1048576) (R : Nat → List Int → Prop) :
  Ev (fun n => laws_toUint64S.c n l (R n)) ↔ Ev (fun n => R n l) := by
 refine Ev.suc.trans ?_
 simp (disch := omega) only [laws_toUint64S.c, laws_toUint64S.w, grd_dec2, decide_true, Bool.and_true]
 rw [laws_toUint64S_lp (by omega) l 0 _ rfl (by omega) (by simp), Ev.s1 R]
 simp
theorem laws_toBits_ev {a0 : Int} {a1 : List Int} (h : a1.length ≤ 1048576) (R : Nat → Int → List Int → Prop) :
  Ev (fun n => laws_toBits.c n a0 a1 (R n)) ↔ Ev (fun n => R n a0 a1) := by
 refine Ev.suc.trans ?_
 simp (disch := omega) only [laws_toBits.c, laws_toBits.w, laws_toUint64S_ev, Ev.s2 R]
theorem laws_toInt64S_lp {l : List Int} (hl : l.length ≤ 1048576) : ∀ (ys : List Int) (x : Int) (o : List Int), l.drop x.toNat = ys → 0 ≤ x → o.length = l.length → ∀ (Kx : Nat → List Int → Prop),
  (Ev (fun n => laws_toInt64S.l3 n l x o (Kx n)) ↔ Ev (fun n => Kx n (o.take x.toNat ++ ys)))
 | [], x, o, h, h0, ho, Kx => by
  have := drop_nil h h0
  refine Ev.suc.trans ?_
  simp (disch := omega) only [laws_toInt64S.l3, laws_toInt64S.l3.b, if_neg, decide_eq_true_eq, Ev.s1 Kx]
  rw [List.take_of_length_le (by omega), List.append_nil]
 | y :: ys, x, o, h, h0, ho, Kx => by
  obtain ⟨e1, e2, e3⟩ := drop_cons h h0
  refine Ev.suc.trans ?_
  simp (disch := omega) only [laws_toInt64S.l3, laws_toInt64S.l3.b, if_pos, decide_eq_true_eq, Ev.s1 Kx, grd_dec2, e2, wrap64]
  rw [laws_toInt64S_lp hl ys (x + 1) _ e3 (by omega) (by simpa using ho), Ev.s1 Kx, take_set (by omega) (by omega), List.append_assoc]
  rfl
theorem laws_toInt64S_ev {l : List Int} (h : l.length ≤ 1048576) (R : Nat → List Int → Prop) :
  Ev (fun n => laws_toInt64S.c n l (R n)) ↔ Ev (fun n => R n l) := by
 refine Ev.suc.trans ?_
 simp (disch := omega) only [laws_toInt64S.c, laws_toInt64S.w, grd_dec2, decide_true, Bool.and_true]
 rw [laws_toInt64S_lp (by omega) l 0 _ rfl (by omega) (by simp), Ev.s1 R]
 simp
theorem laws_toTNode_ev {a0 : Int} {a1 : Int} {a2 : Int} {a3 : Int} {a4 : Int} {a5 : List Int} {a6 : List Int} (h : a5.length + a6.length ≤ 1048576) (R : Nat → Int → Int → Int → Int → Int → List Int → List Int → Prop) :
  Ev (fun n => laws_toTNode.c n a0 a1 a2 a3 a4 a5 a6 (R n)) ↔ Ev (fun n => R n a0 a1 a2 a3 a4 a5 a6) := by
 refine Ev.suc.trans ?_
 simp (disch := omega) only [laws_toTNode.c, laws_toTNode.w, laws_toBits_ev, laws_toInt64S_ev, Ev.s7 R]
theorem laws_toTNodeS_lp {l : List tTNode} (hl : l.length ≤ 1048576) : ∀ (ys : List tTNode) (x : Int) (o : List tTNode), l.drop x.toNat = ys → 0 ≤ x → o.length = l.length → (∀ y ∈ ys, y.2.2.2.2.2.1.length + y.2.2.2.2.2.2.length ≤ 1048576) → ∀ (Kx : Nat → List tTNode → Prop),
  (Ev (fun n => laws_toTNodeS.l3 n l x o (Kx n)) ↔ Ev (fun n => Kx n (o.take x.toNat ++ ys)))
 | [], x, o, h, h0, ho, hy, Kx => by
  have := drop_nil h h0
  refine Ev.suc.trans ?_
  simp (disch := omega) only [laws_toTNodeS.l3, laws_toTNodeS.l3.b, if_neg, decide_eq_true_eq, Ev.s1 Kx]
  rw [List.take_of_length_le (by omega), List.append_nil]
 | y :: ys, x, o, h, h0, ho, hy, Kx => by
  obtain ⟨e1, e2, e3⟩ := drop_cons h h0
  have hy0 := hy y List.mem_cons_self
  refine Ev.suc.trans ?_
  simp (disch := omega) only [laws_toTNodeS.l3, laws_toTNodeS.l3.b, if_pos, decide_eq_true_eq, Ev.s1 Kx, grd_dec2, e2, wrap64, laws_toTNode_ev]
  rw [laws_toTNodeS_lp hl ys (x + 1) _ e3 (by omega) (by simpa using ho) (fun y hy' => hy y (List.mem_cons_of_mem _ hy')), Ev.s1 Kx, take_set (by omega) (by omega), List.append_assoc]
  rfl
theorem laws_toTNodeS_ev {l : List tTNode} (h : (l.length + sTNodeS l) ≤ 1048576) (R : Nat → List tTNode → Prop) :
  Ev (fun n => laws_toTNodeS.c n l (R n)) ↔ Ev (fun n => R n l) := by
 refine Ev.suc.trans ?_
 simp (disch := omega) only [laws_toTNodeS.c, laws_toTNodeS.w, grd_dec2, decide_true, Bool.and_true]
 rw [laws_toTNodeS_lp (by omega) l 0 _ rfl (by omega) (by simp) (fun y hy => by have := sTNodeS_mem hy; omega), Ev.s1 R]
 simp
theorem laws_toTerm_ev {a0 : List (Int × Int × Int × Int × Int × List (Int) × List (Int))} (h : (a0.length + sTNodeS a0) ≤ 1048576) (R : Nat → List (Int × Int × Int × Int × Int × List (Int) × List (Int)) → Prop) :
  Ev (fun n => laws_toTerm.c n a0 (R n)) ↔ Ev (fun n => R n a0) := by
 refine Ev.suc.trans ?_
 simp (disch := omega) only [laws_toTerm.c, laws_toTerm.w, laws_toTNodeS_ev, Ev.s1 R]
theorem laws_toLiteral_ev {a0 : Int} {a1 : Bool} {a2 : List (Int × Int × Int × Int × Int × List (Int) × List (Int))} {a3 : List (Int × Int × Int × Int × Int × List (Int) × List (Int))} (h : ((a2.length + sTNodeS a2)) + ((a3.length + sTNodeS a3)) ≤ 1048576) (R : Nat → Int → Bool → List (Int × Int × Int × Int × Int × List (Int) × List (Int)) → List (Int × Int × Int × Int × Int × List (Int) × List (Int)) → Prop) :
  Ev (fun n => laws_toLiteral.c n a0 a1 a2 a3 (R n)) ↔ Ev (fun n => R n a0 a1 a2 a3) := by
 refine Ev.suc.trans ?_
 simp (disch := omega) only [laws_toLiteral.c, laws_toLiteral.w, laws_toTerm_ev, Ev.s4 R]
theorem laws_toLiteralS_lp {l : List tLiteral} (hl : l.length ≤ 1048576) : ∀ (ys : List tLiteral) (x : Int) (o : List tLiteral), l.drop x.toNat = ys → 0 ≤ x → o.length = l.length → (∀ y ∈ ys, ((y.2.2.1.length + sTNodeS y.2.2.1)) + ((y.2.2.2.length + sTNodeS y.2.2.2)) ≤ 1048576) → ∀ (Kx : Nat → List tLiteral → Prop),
  (Ev (fun n => laws_toLiteralS.l3 n l x o (Kx n)) ↔ Ev (fun n => Kx n (o.take x.toNat ++ ys)))
 | [], x, o, h, h0, ho, hy, Kx => by
  have := drop_nil h h0
  refine Ev.suc.trans ?_
  simp (disch := omega) only [laws_toLiteralS.l3, laws_toLiteralS.l3.b, if_neg, decide_eq_true_eq, Ev.s1 Kx]
  rw [List.take_of_length_le (by omega), List.append_nil]
 | y :: ys, x, o, h, h0, ho, hy, Kx => by
  obtain ⟨e1, e2, e3⟩ := drop_cons h h0
  have hy0 := hy y List.mem_cons_self
  refine Ev.suc.trans ?_
  simp (disch := omega) only [laws_toLiteralS.l3, laws_toLiteralS.l3.b, if_pos, decide_eq_true_eq, Ev.s1 Kx, grd_dec2, e2, wrap64, laws_toLiteral_ev]
  rw [laws_toLiteralS_lp hl ys (x + 1) _ e3 (by omega) (by simpa using ho) (fun y hy' => hy y (List.mem_cons_of_mem _ hy')), Ev.s1 Kx, take_set (by omega) (by omega), List.append_assoc]
  rfl
theorem laws_toLiteralS_ev {l : List tLiteral} (h : (l.length + sLiteralS l) ≤ 1048576) (R : Nat → List tLiteral → Prop) :
  Ev (fun n => laws_toLiteralS.c n l (R n)) ↔ Ev (fun n => R n l) := by
 refine Ev.suc.trans ?_
 simp (disch := omega) only [laws_toLiteralS.c, laws_toLiteralS.w, grd_dec2, decide_true, Bool.and_true]
 rw [laws_toLiteralS_lp (by omega) l 0 _ rfl (by omega) (by simp) (fun y hy => by have := sLiteralS_mem hy; omega), Ev.s1 R]
 simp
theorem laws_toScope_ev {a0 : Int} {a1 : List (Int × Bool × List (Int × Int × Int × Int × Int × List (Int) × List (Int)) × List (Int × Int × Int × Int × Int × List (Int) × List (Int)))} (h : (a1.length + sLiteralS a1) ≤ 1048576) (R : Nat → Int → List (Int × Bool × List (Int × Int × Int × Int × Int × List (Int) × List (Int)) × List (Int × Int × Int × Int × Int × List (Int) × List (Int))) → Prop) :
  Ev (fun n => laws_toScope.c n a0 a1 (R n)) ↔ Ev (fun n => R n a0 a1) := by
 refine Ev.suc.trans ?_
 simp (disch := omega) only [laws_toScope.c, laws_toScope.w, laws_toLiteralS_ev, Ev.s2 R]
theorem laws_toScopeS_lp {l : List tScope} (hl : l.length ≤ 1048576) : ∀ (ys : List tScope) (x : Int) (o : List tScope), l.drop x.toNat = ys → 0 ≤ x → o.length = l.length → (∀ y ∈ ys, (y.2.length + sLiteralS y.2) ≤ 1048576) → ∀ (Kx : Nat → List tScope → Prop),
  (Ev (fun n => laws_toScopeS.l3 n l x o (Kx n)) ↔ Ev (fun n => Kx n (o.take x.toNat ++ ys)))
 | [], x, o, h, h0, ho, hy, Kx => by
  have := drop_nil h h0
  refine Ev.suc.trans ?_
  simp (disch := omega) only [laws_toScopeS.l3, laws_toScopeS.l3.b, if_neg, decide_eq_true_eq, Ev.s1 Kx]
  rw [List.take_of_length_le (by omega), List.append_nil]
 | y :: ys, x, o, h, h0, ho, hy, Kx => by
  obtain ⟨e1, e2, e3⟩ := drop_cons h h0
  have hy0 := hy y List.mem_cons_self
  refine Ev.suc.trans ?_
  simp (disch := omega) only [laws_toScopeS.l3, laws_toScopeS.l3.b, if_pos, decide_eq_true_eq, Ev.s1 Kx, grd_dec2, e2, wrap64, laws_toScope_ev]
  rw [laws_toScopeS_lp hl ys (x + 1) _ e3 (by omega) (by simpa using ho) (fun y hy' => hy y (List.mem_cons_of_mem _ hy')), Ev.s1 Kx, take_set (by omega) (by omega), List.append_assoc]
  rfl
theorem laws_toScopeS_ev {l : List tScope} (h : (l.length + sScopeS l) ≤ 1048576) (R : Nat → List tScope → Prop) :
  Ev (fun n => laws_toScopeS.c n l (R n)) ↔ Ev (fun n => R n l) := by
 refine Ev.suc.trans ?_
 simp (disch := omega) only [laws_toScopeS.c, laws_toScopeS.w, grd_dec2, decide_true, Bool.and_true]
 rw [laws_toScopeS_lp (by omega) l 0 _ rfl (by omega) (by simp) (fun y hy => by have := sScopeS_mem hy; omega), Ev.s1 R]
 simp
theorem laws_toSession_ev {a0 : List (List UInt8 × Int)} {a1 : List (Int × List (Int × Bool × List (Int × Int × Int × Int × Int × List (Int) × List (Int)) × List (Int × Int × Int × Int × Int × List (Int) × List (Int))))} {a2 : Int} (h : (a0.length + sDeclS a0) + (a1.length + sScopeS a1) ≤ 1048576) (R : Nat → List (List UInt8 × Int) → List (Int × List (Int × Bool × List (Int × Int × Int × Int × Int × List (Int) × List (Int)) × List (Int × Int × Int × Int × Int × List (Int) × List (Int)))) → Int → Prop) :
  Ev (fun n => laws_toSession.c n a0 a1 a2 (R n)) ↔ Ev (fun n => R n a0 a1 a2) := by
 refine Ev.suc.trans ?_
 simp (disch := omega) only [laws_toSession.c, laws_toSession.w, laws_toDeclS_ev, laws_toScopeS_ev, Ev.s3 R]
theorem laws_eqDecl_ev {a0 b0 : List UInt8} {a1 b1 : Int} (R : Nat → Bool → Prop) :
  Ev (fun n => laws_eqDecl.c n a0 a1 b0 b1 (R n)) ↔ Ev (fun n => R n (decide (a0 = b0 ∧ a1 = b1))) := by
 refine Ev.suc.trans ?_
 simp (disch := first | assumption | omega) only [laws_eqDecl.c, laws_eqDecl.w, Ev.iteI, Bool.not_eq_true', decide_eq_false_iff_not, beq_eq_false_iff_ne, ne_eq, Ev.s1 R]
 (repeat' split) <;> first | (rw [decide_eq_false]; simp_all; done) | (rw [decide_eq_true]; simp_all; done)
theorem laws_eqDeclS_lp {l l' : List tDecl} (hl : l.length ≤ 1099511627776) (hll : l.length = l'.length) : ∀ (ys ys' : List tDecl) (x : Int), l.drop x.toNat = ys → l'.drop x.toNat = ys' → 0 ≤ x → ∀ (Kx : Nat → Prop) (Kr : Nat → Bool → Prop),
  (Ev (fun n => laws_eqDeclS.l4 n l l' x (Kx n) (Kr n)) ↔ if ys = ys' then Ev Kx else Ev (fun n => Kr n false))
 | [], [], x, h, h', h0, Kx, Kr => by
  have := drop_nil h h0
  refine Ev.suc.trans ?_
  simp (disch := omega) only [laws_eqDeclS.l4, laws_eqDeclS.l4.b, if_neg, decide_eq_true_eq, Ev.s0 Kx, if_true]
 | [], y' :: ys', x, h, h', h0, Kx, Kr => by
  have := drop_nil h h0; have := (drop_cons h' h0).1; omega
 | y :: ys, [], x, h, h', h0, Kx, Kr => by
  have := drop_nil h' h0; have := (drop_cons h h0).1; omega
 | y :: ys, y' :: ys', x, h, h', h0, Kx, Kr => by
  obtain ⟨e1, e2, e3⟩ := drop_cons h h0
  obtain ⟨_, f2, f3⟩ := drop_cons h' h0
  refine Ev.suc.trans ?_
  simp (disch := first | assumption | exact hy0.1 | exact hy0.2 | exact hy0.2.1 | exact hy0.2.2 | exact hy0.2.2.1 | exact hy0.2.2.2 | omega) only [laws_eqDeclS.l4, laws_eqDeclS.l4.b, if_pos, decide_eq_true_eq, Ev.s0 Kx, Ev.s1 Kr, grd_dec2, e2, f2, wrap64, laws_eqDecl_ev, Ev.iteI, Bool.not_eq_true', decide_eq_false_iff_not]
  rw [laws_eqDeclS_lp hl hll ys ys' (x + 1) e3 f3 (by omega), Ev.s0 Kx, Ev.s1 Kr]
  simp only [List.cons.injEq, Prod.ext_iff]
  (repeat' split) <;> first | rfl | (exfalso; simp_all; done)
theorem laws_eqDeclS_ev {l l' : List tDecl} (hl : l.length ≤ 1099511627776) (R : Nat → Bool → Prop) :
  Ev (fun n => laws_eqDeclS.c n l l' (R n)) ↔ Ev (fun n => R n (decide (l = l'))) := by
 refine Ev.suc.trans ?_
 simp (disch := omega) only [laws_eqDeclS.c, laws_eqDeclS.w, Ev.iteI, Bool.not_eq_true', decide_eq_false_iff_not, Ev.s1 R]
 split
 ·rw [decide_eq_false]; intro e; subst e; omega
 ·rw [laws_eqDeclS_lp hl (by omega) l l' 0 rfl rfl (by omega), Ev.s1 R, Ev.s1 R]
  split
  ·rw [decide_eq_true ‹_›]
  ·rw [decide_eq_false ‹_›]
theorem laws_eqUint64S_lp {l l' : List Int} (hl : l.length ≤ 1099511627776) (hll : l.length = l'.length) : ∀ (ys ys' : List Int) (x : Int), l.drop x.toNat = ys → l'.drop x.toNat = ys' → 0 ≤ x → ∀ (Kx : Nat → Prop) (Kr : Nat → Bool → Prop),
  (Ev (fun n => laws_eqUint64S.l4 n l l' x (Kx n) (Kr n)) ↔ if ys = ys' then Ev Kx else Ev (fun n => Kr n false))
 | [], [], x, h, h', h0, Kx, Kr => by
  have := drop_nil h h0
  refine Ev.suc.trans ?_
  simp (disch := omega) only [laws_eqUint64S.l4, laws_eqUint64S.l4.b, if_neg, decide_eq_true_eq, Ev.s0 Kx, if_true]
 | [], y' :: ys', x, h, h', h0, Kx, Kr => by
  have := drop_nil h h0; have := (drop_cons h' h0).1; omega
 | y :: ys, [], x, h, h', h0, Kx, Kr => by
  have := drop_nil h' h0; have := (drop_cons h h0).1; omega
 | y :: ys, y' :: ys', x, h, h', h0, Kx, Kr => by
  obtain ⟨e1, e2, e3⟩ := drop_cons h h0
  obtain ⟨_, f2, f3⟩ := drop_cons h' h0
  refine Ev.suc.trans ?_
  simp (disch := first | assumption | exact hy0.1 | exact hy0.2 | exact hy0.2.1 | exact hy0.2.2 | exact hy0.2.2.1 | exact hy0.2.2.2 | omega) only [laws_eqUint64S.l4, laws_eqUint64S.l4.b, if_pos, decide_eq_true_eq, Ev.s0 Kx, Ev.s1 Kr, grd_dec2, e2, f2, wrap64, Ev.iteI, Bool.not_eq_true', decide_eq_false_iff_not]
  rw [laws_eqUint64S_lp hl hll ys ys' (x + 1) e3 f3 (by omega), Ev.s0 Kx, Ev.s1 Kr]
  simp only [List.cons.injEq, Prod.ext_iff]
  (repeat' split) <;> first | rfl | (exfalso; simp_all; done)
theorem laws_eqUint64S_ev {l l' : List Int} (hl : l.length ≤ 1099511627776) (R : Nat → Bool → Prop) :
  Ev (fun n => laws_eqUint64S.c n l l' (R n)) ↔ Ev (fun n => R n (decide (l = l'))) := by
 refine Ev.suc.trans ?_
 simp (disch := omega) only [laws_eqUint64S.c, laws_eqUint64S.w, Ev.iteI, Bool.not_eq_true', decide_eq_false_iff_not, Ev.s1 R]
 split
 ·rw [decide_eq_false]; intro e; subst e; omega
 ·rw [laws_eqUint64S_lp hl (by omega) l l' 0 rfl rfl (by omega), Ev.s1 R, Ev.s1 R]
  split
  ·rw [decide_eq_true ‹_›]
  ·rw [decide_eq_false ‹_›]
theorem laws_eqBits_ev {a0 b0 : Int} {a1 b1 : List Int} (h0 : a1.length ≤ 1099511627776) (R : Nat → Bool → Prop) :
  Ev (fun n => laws_eqBits.c n a0 a1 b0 b1 (R n)) ↔ Ev (fun n => R n (decide (a0 = b0 ∧ a1 = b1))) := by
 refine Ev.suc.trans ?_
 simp (disch := first | assumption | omega) only [laws_eqBits.c, laws_eqBits.w, laws_eqUint64S_ev, Ev.iteI, Bool.not_eq_true', decide_eq_false_iff_not, beq_eq_false_iff_ne, ne_eq, Ev.s1 R]
 (repeat' split) <;> first | (rw [decide_eq_false]; simp_all; done) | (rw [decide_eq_true]; simp_all; done)
theorem laws_eqInt64S_lp {l l' : List Int} (hl : l.length ≤ 1099511627776) (hll : l.length = l'.length) : ∀ (ys ys' : List Int) (x : Int), l.drop x.toNat = ys → l'.drop x.toNat = ys' → 0 ≤ x → ∀ (Kx : Nat → Prop) (Kr : Nat → Bool → Prop),
  (Ev (fun n => laws_eqInt64S.l4 n l l' x (Kx n) (Kr n)) ↔ if ys = ys' then Ev Kx else Ev (fun n => Kr n false))
 | [], [], x, h, h', h0, Kx, Kr => by
  have := drop_nil h h0
  refine Ev.suc.trans ?_
  simp (disch := omega) only [laws_eqInt64S.l4, laws_eqInt64S.l4.b, if_neg, decide_eq_true_eq, Ev.s0 Kx, if_true]
 | [], y' :: ys', x, h, h', h0, Kx, Kr => by
  have := drop_nil h h0; have := (drop_cons h' h0).1; omega
 | y :: ys, [], x, h, h', h0, Kx, Kr => by
  have := drop_nil h' h0; have := (drop_cons h h0).1; omega
 | y :: ys, y' :: ys', x, h, h', h0, Kx, Kr => by
  obtain ⟨e1, e2, e3⟩ := drop_cons h h0
  obtain ⟨_, f2, f3⟩ := drop_cons h' h0
  refine Ev.suc.trans ?_
  simp (disch := first | assumption | exact hy0.1 | exact hy0.2 | exact hy0.2.1 | exact hy0.2.2 | exact hy0.2.2.1 | exact hy0.2.2.2 | omega) only [laws_eqInt64S.l4, laws_eqInt64S.l4.b, if_pos, decide_eq_true_eq, Ev.s0 Kx, Ev.s1 Kr, grd_dec2, e2, f2, wrap64, Ev.iteI, Bool.not_eq_true', decide_eq_false_iff_not]
  rw [laws_eqInt64S_lp hl hll ys ys' (x + 1) e3 f3 (by omega), Ev.s0 Kx, Ev.s1 Kr]
  simp only [List.cons.injEq, Prod.ext_iff]
  (repeat' split) <;> first | rfl | (exfalso; simp_all; done)
theorem laws_eqInt64S_ev {l l' : List Int} (hl : l.length ≤ 1099511627776) (R : Nat → Bool → Prop) :
  Ev (fun n => laws_eqInt64S.c n l l' (R n)) ↔ Ev (fun n => R n (decide (l = l'))) := by
 refine Ev.suc.trans ?_
 simp (disch := omega) only [laws_eqInt64S.c, laws_eqInt64S.w, Ev.iteI, Bool.not_eq_true', decide_eq_false_iff_not, Ev.s1 R]
 split
 ·rw [decide_eq_false]; intro e; subst e; omega
 ·rw [laws_eqInt64S_lp hl (by omega) l l' 0 rfl rfl (by omega), Ev.s1 R, Ev.s1 R]
  split
  ·rw [decide_eq_true ‹_›]
  ·rw [decide_eq_false ‹_›]
theorem laws_eqTNode_ev {a0 b0 : Int} {a1 b1 : Int} {a2 b2 : Int} {a3 b3 : Int} {a4 b4 : Int} {a5 b5 : List Int} {a6 b6 : List Int} (h0 : a5.length ≤ 1099511627776) (h1 : a6.length ≤ 1099511627776) (R : Nat → Bool → Prop) :
  Ev (fun n => laws_eqTNode.c n a0 a1 a2 a3 a4 a5 a6 b0 b1 b2 b3 b4 b5 b6 (R n)) ↔ Ev (fun n => R n (decide (a0 = b0 ∧ a1 = b1 ∧ a2 = b2 ∧ a3 = b3 ∧ a4 = b4 ∧ a5 = b5 ∧ a6 = b6))) := by
 refine Ev.suc.trans ?_
 simp (disch := first | assumption | omega) only [laws_eqTNode.c, laws_eqTNode.w, laws_eqBits_ev, laws_eqInt64S_ev, Ev.iteI, Bool.not_eq_true', decide_eq_false_iff_not, beq_eq_false_iff_ne, ne_eq, Ev.s1 R]
 (repeat' split) <;> first | (rw [decide_eq_false]; simp_all; done) | (rw [decide_eq_true]; simp_all; done)
theorem laws_eqTNodeS_lp {l l' : List tTNode} (hl : l.length ≤ 1099511627776) (hll : l.length = l'.length) : ∀ (ys ys' : List tTNode) (x : Int), l.drop x.toNat = ys → l'.drop x.toNat = ys' → 0 ≤ x → (∀ y ∈ ys, y.2.2.2.2.2.1.length ≤ 1099511627776 ∧ y.2.2.2.2.2.2.length ≤ 1099511627776) → ∀ (Kx : Nat → Prop) (Kr : Nat → Bool → Prop),
  (Ev (fun n => laws_eqTNodeS.l4 n l l' x (Kx n) (Kr n)) ↔ if ys = ys' then Ev Kx else Ev (fun n => Kr n false))
 | [], [], x, h, h', h0, hy, Kx, Kr => by
  have := drop_nil h h0
  refine Ev.suc.trans ?_
  simp (disch := omega) only [laws_eqTNodeS.l4, laws_eqTNodeS.l4.b, if_neg, decide_eq_true_eq, Ev.s0 Kx, if_true]
 | [], y' :: ys', x, h, h', h0, hy, Kx, Kr => by
  have := drop_nil h h0; have := (drop_cons h' h0).1; omega
 | y :: ys, [], x, h, h', h0, hy, Kx, Kr => by
  have := drop_nil h' h0; have := (drop_cons h h0).1; omega
 | y :: ys, y' :: ys', x, h, h', h0, hy, Kx, Kr => by
  obtain ⟨e1, e2, e3⟩ := drop_cons h h0
  obtain ⟨_, f2, f3⟩ := drop_cons h' h0
  have hy0 := hy y List.mem_cons_self
  refine Ev.suc.trans ?_
  simp (disch := first | assumption | exact hy0.1 | exact hy0.2 | exact hy0.2.1 | exact hy0.2.2 | exact hy0.2.2.1 | exact hy0.2.2.2 | omega) only [laws_eqTNodeS.l4, laws_eqTNodeS.l4.b, if_pos, decide_eq_true_eq, Ev.s0 Kx, Ev.s1 Kr, grd_dec2, e2, f2, wrap64, laws_eqTNode_ev, Ev.iteI, Bool.not_eq_true', decide_eq_false_iff_not]
  rw [laws_eqTNodeS_lp hl hll ys ys' (x + 1) e3 f3 (by omega) (fun y hy' => hy y (List.mem_cons_of_mem _ hy')), Ev.s0 Kx, Ev.s1 Kr]
  simp only [List.cons.injEq, Prod.ext_iff]
  (repeat' split) <;> first | rfl | (exfalso; simp_all; done)
theorem laws_eqTNodeS_ev {l l' : List tTNode} (hl : l.length ≤ 1099511627776) (hy : ∀ y ∈ l, y.2.2.2.2.2.1.length ≤ 1099511627776 ∧ y.2.2.2.2.2.2.length ≤ 1099511627776) (R : Nat → Bool → Prop) :
  Ev (fun n => laws_eqTNodeS.c n l l' (R n)) ↔ Ev (fun n => R n (decide (l = l'))) := by
 refine Ev.suc.trans ?_
 simp (disch := omega) only [laws_eqTNodeS.c, laws_eqTNodeS.w, Ev.iteI, Bool.not_eq_true', decide_eq_false_iff_not, Ev.s1 R]
 split
 ·rw [decide_eq_false]; intro e; subst e; omega
 ·rw [laws_eqTNodeS_lp hl (by omega) l l' 0 rfl rfl (by omega) hy, Ev.s1 R, Ev.s1 R]
  split
  ·rw [decide_eq_true ‹_›]
  ·rw [decide_eq_false ‹_›]
theorem laws_eqTerm_ev {a0 b0 : List (Int × Int × Int × Int × Int × List (Int) × List (Int))} (h0 : a0.length ≤ 1099511627776) (h1 : (∀ y : tTNode, y ∈ a0 → y.2.2.2.2.2.1.length ≤ 1099511627776 ∧ y.2.2.2.2.2.2.length ≤ 1099511627776)) (R : Nat → Bool → Prop) :
  Ev (fun n => laws_eqTerm.c n a0 b0 (R n)) ↔ Ev (fun n => R n (decide (a0 = b0))) := by
 refine Ev.suc.trans ?_
 simp (disch := first | assumption | omega) only [laws_eqTerm.c, laws_eqTerm.w, laws_eqTNodeS_ev, Ev.iteI, Bool.not_eq_true', decide_eq_false_iff_not, beq_eq_false_iff_ne, ne_eq, Ev.s1 R]
 (repeat' split) <;> first | (rw [decide_eq_false]; simp_all; done) | (rw [decide_eq_true]; simp_all; done)
theorem laws_eqLiteral_ev {a0 b0 : Int} {a1 b1 : Bool} {a2 b2 : List (Int × Int × Int × Int × Int × List (Int) × List (Int))} {a3 b3 : List (Int × Int × Int × Int × Int × List (Int) × List (Int))} (h0 : a2.length ≤ 1099511627776) (h1 : (∀ y : tTNode, y ∈ a2 → y.2.2.2.2.2.1.length ≤ 1099511627776 ∧ y.2.2.2.2.2.2.length ≤ 1099511627776)) (h2 : a3.length ≤ 1099511627776) (h3 : (∀ y : tTNode, y ∈ a3 → y.2.2.2.2.2.1.length ≤ 1099511627776 ∧ y.2.2.2.2.2.2.length ≤ 1099511627776)) (R : Nat → Bool → Prop) :
  Ev (fun n => laws_eqLiteral.c n a0 a1 a2 a3 b0 b1 b2 b3 (R n)) ↔ Ev (fun n => R n (decide (a0 = b0 ∧ a1 = b1 ∧ a2 = b2 ∧ a3 = b3))) := by
 refine Ev.suc.trans ?_
 simp (disch := first | assumption | omega) only [laws_eqLiteral.c, laws_eqLiteral.w, laws_eqTerm_ev, Ev.iteI, Bool.not_eq_true', decide_eq_false_iff_not, beq_eq_false_iff_ne, ne_eq, Ev.s1 R]
 (repeat' split) <;> first | (rw [decide_eq_false]; simp_all; done) | (rw [decide_eq_true]; simp_all; done)
theorem laws_eqLiteralS_lp {l l' : List tLiteral} (hl : l.length ≤ 1099511627776) (hll : l.length = l'.length) : ∀ (ys ys' : List tLiteral) (x : Int), l.drop x.toNat = ys → l'.drop x.toNat = ys' → 0 ≤ x → (∀ y ∈ ys, y.2.2.1.length ≤ 1099511627776 ∧ (∀ z : tTNode, z ∈ y.2.2.1 → z.2.2.2.2.2.1.length ≤ 1099511627776 ∧ z.2.2.2.2.2.2.length ≤ 1099511627776) ∧ y.2.2.2.length ≤ 1099511627776 ∧ (∀ z : tTNode, z ∈ y.2.2.2 → z.2.2.2.2.2.1.length ≤ 1099511627776 ∧ z.2.2.2.2.2.2.length ≤ 1099511627776)) → ∀ (Kx : Nat → Prop) (Kr : Nat → Bool → Prop),
  (Ev (fun n => laws_eqLiteralS.l4 n l l' x (Kx n) (Kr n)) ↔ if ys = ys' then Ev Kx else Ev (fun n => Kr n false))
 | [], [], x, h, h', h0, hy, Kx, Kr => by
  have := drop_nil h h0
  refine Ev.suc.trans ?_
  simp (disch := omega) only [laws_eqLiteralS.l4, laws_eqLiteralS.l4.b, if_neg, decide_eq_true_eq, Ev.s0 Kx, if_true]
 | [], y' :: ys', x, h, h', h0, hy, Kx, Kr => by
  have := drop_nil h h0; have := (drop_cons h' h0).1; omega
 | y :: ys, [], x, h, h', h0, hy, Kx, Kr => by
  have := drop_nil h' h0; have := (drop_cons h h0).1; omega
 | y :: ys, y' :: ys', x, h, h', h0, hy, Kx, Kr => by
  obtain ⟨e1, e2, e3⟩ := drop_cons h h0
  obtain ⟨_, f2, f3⟩ := drop_cons h' h0
  have hy0 := hy y List.mem_cons_self
  refine Ev.suc.trans ?_
  simp (disch := first | assumption | exact hy0.1 | exact hy0.2 | exact hy0.2.1 | exact hy0.2.2 | exact hy0.2.2.1 | exact hy0.2.2.2 | omega) only [laws_eqLiteralS.l4, laws_eqLiteralS.l4.b, if_pos, decide_eq_true_eq, Ev.s0 Kx, Ev.s1 Kr, grd_dec2, e2, f2, wrap64, laws_eqLiteral_ev, Ev.iteI, Bool.not_eq_true', decide_eq_false_iff_not]
  rw [laws_eqLiteralS_lp hl hll ys ys' (x + 1) e3 f3 (by omega) (fun y hy' => hy y (List.mem_cons_of_mem _ hy')), Ev.s0 Kx, Ev.s1 Kr]
  simp only [List.cons.injEq, Prod.ext_iff]
  (repeat' split) <;> first | rfl | (exfalso; simp_all; done)
theorem laws_eqLiteralS_ev {l l' : List tLiteral} (hl : l.length ≤ 1099511627776) (hy : ∀ y ∈ l, y.2.2.1.length ≤ 1099511627776 ∧ (∀ z : tTNode, z ∈ y.2.2.1 → z.2.2.2.2.2.1.length ≤ 1099511627776 ∧ z.2.2.2.2.2.2.length ≤ 1099511627776) ∧ y.2.2.2.length ≤ 1099511627776 ∧ (∀ z : tTNode, z ∈ y.2.2.2 → z.2.2.2.2.2.1.length ≤ 1099511627776 ∧ z.2.2.2.2.2.2.length ≤ 1099511627776)) (R : Nat → Bool → Prop) :
  Ev (fun n => laws_eqLiteralS.c n l l' (R n)) ↔ Ev (fun n => R n (decide (l = l'))) := by
 refine Ev.suc.trans ?_
 simp (disch := omega) only [laws_eqLiteralS.c, laws_eqLiteralS.w, Ev.iteI, Bool.not_eq_true', decide_eq_false_iff_not, Ev.s1 R]
 split
 ·rw [decide_eq_false]; intro e; subst e; omega
 ·rw [laws_eqLiteralS_lp hl (by omega) l l' 0 rfl rfl (by omega) hy, Ev.s1 R, Ev.s1 R]
  split
  ·rw [decide_eq_true ‹_›]
  ·rw [decide_eq_false ‹_›]
theorem laws_eqScope_ev {a0 b0 : Int} {a1 b1 : List (Int × Bool × List (Int × Int × Int × Int × Int × List (Int) × List (Int)) × List (Int × Int × Int × Int × Int × List (Int) × List (Int)))} (h0 : a1.length ≤ 1099511627776) (h1 : (∀ y : tLiteral, y ∈ a1 → y.2.2.1.length ≤ 1099511627776 ∧ (∀ z : tTNode, z ∈ y.2.2.1 → z.2.2.2.2.2.1.length ≤ 1099511627776 ∧ z.2.2.2.2.2.2.length ≤ 1099511627776) ∧ y.2.2.2.length ≤ 1099511627776 ∧ (∀ z : tTNode, z ∈ y.2.2.2 → z.2.2.2.2.2.1.length ≤ 1099511627776 ∧ z.2.2.2.2.2.2.length ≤ 1099511627776))) (R : Nat → Bool → Prop) :
  Ev (fun n => laws_eqScope.c n a0 a1 b0 b1 (R n)) ↔ Ev (fun n => R n (decide (a0 = b0 ∧ a1 = b1))) := by
 refine Ev.suc.trans ?_
 simp (disch := first | assumption | omega) only [laws_eqScope.c, laws_eqScope.w, laws_eqLiteralS_ev, Ev.iteI, Bool.not_eq_true', decide_eq_false_iff_not, beq_eq_false_iff_ne, ne_eq, Ev.s1 R]
 (repeat' split) <;> first | (rw [decide_eq_false]; simp_all; done) | (rw [decide_eq_true]; simp_all; done)
theorem laws_eqScopeS_lp {l l' : List tScope} (hl : l.length ≤ 1099511627776) (hll : l.length = l'.length) : ∀ (ys ys' : List tScope) (x : Int), l.drop x.toNat = ys → l'.drop x.toNat = ys' → 0 ≤ x → (∀ y ∈ ys, y.2.length ≤ 1099511627776 ∧ (∀ z : tLiteral, z ∈ y.2 → z.2.2.1.length ≤ 1099511627776 ∧ (∀ w : tTNode, w ∈ z.2.2.1 → w.2.2.2.2.2.1.length ≤ 1099511627776 ∧ w.2.2.2.2.2.2.length ≤ 1099511627776) ∧ z.2.2.2.length ≤ 1099511627776 ∧ (∀ w : tTNode, w ∈ z.2.2.2 → w.2.2.2.2.2.1.length ≤ 1099511627776 ∧ w.2.2.2.2.2.2.length ≤ 1099511627776))) → ∀ (Kx : Nat → Prop) (Kr : Nat → Bool → Prop),
  (Ev (fun n => laws_eqScopeS.l4 n l l' x (Kx n) (Kr n)) ↔ if ys = ys' then Ev Kx else Ev (fun n => Kr n false))
 | [], [], x, h, h', h0, hy, Kx, Kr => by
  have := drop_nil h h0
  refine Ev.suc.trans ?_
  simp (disch := omega) only [laws_eqScopeS.l4, laws_eqScopeS.l4.b, if_neg, decide_eq_true_eq, Ev.s0 Kx, if_true]
 | [], y' :: ys', x, h, h', h0, hy, Kx, Kr => by
  have := drop_nil h h0; have := (drop_cons h' h0).1; omega
 | y :: ys, [], x, h, h', h0, hy, Kx, Kr => by
  have := drop_nil h' h0; have := (drop_cons h h0).1; omega
 | y :: ys, y' :: ys', x, h, h', h0, hy, Kx, Kr => by
  obtain ⟨e1, e2, e3⟩ := drop_cons h h0
  obtain ⟨_, f2, f3⟩ := drop_cons h' h0
  have hy0 := hy y List.mem_cons_self
  refine Ev.suc.trans ?_
  simp (disch := first | assumption | exact hy0.1 | exact hy0.2 | exact hy0.2.1 | exact hy0.2.2 | exact hy0.2.2.1 | exact hy0.2.2.2 | omega) only [laws_eqScopeS.l4, laws_eqScopeS.l4.b, if_pos, decide_eq_true_eq, Ev.s0 Kx, Ev.s1 Kr, grd_dec2, e2, f2, wrap64, laws_eqScope_ev, Ev.iteI, Bool.not_eq_true', decide_eq_false_iff_not]
  rw [laws_eqScopeS_lp hl hll ys ys' (x + 1) e3 f3 (by omega) (fun y hy' => hy y (List.mem_cons_of_mem _ hy')), Ev.s0 Kx, Ev.s1 Kr]
  simp only [List.cons.injEq, Prod.ext_iff]
  (repeat' split) <;> first | rfl | (exfalso; simp_all; done)
theorem laws_eqScopeS_ev {l l' : List tScope} (hl : l.length ≤ 1099511627776) (hy : ∀ y ∈ l, y.2.length ≤ 1099511627776 ∧ (∀ z : tLiteral, z ∈ y.2 → z.2.2.1.length ≤ 1099511627776 ∧ (∀ w : tTNode, w ∈ z.2.2.1 → w.2.2.2.2.2.1.length ≤ 1099511627776 ∧ w.2.2.2.2.2.2.length ≤ 1099511627776) ∧ z.2.2.2.length ≤ 1099511627776 ∧ (∀ w : tTNode, w ∈ z.2.2.2 → w.2.2.2.2.2.1.length ≤ 1099511627776 ∧ w.2.2.2.2.2.2.length ≤ 1099511627776))) (R : Nat → Bool → Prop) :
  Ev (fun n => laws_eqScopeS.c n l l' (R n)) ↔ Ev (fun n => R n (decide (l = l'))) := by
 refine Ev.suc.trans ?_
 simp (disch := omega) only [laws_eqScopeS.c, laws_eqScopeS.w, Ev.iteI, Bool.not_eq_true', decide_eq_false_iff_not, Ev.s1 R]
 split
 ·rw [decide_eq_false]; intro e; subst e; omega
 ·rw [laws_eqScopeS_lp hl (by omega) l l' 0 rfl rfl (by omega) hy, Ev.s1 R, Ev.s1 R]
  split
  ·rw [decide_eq_true ‹_›]
  ·rw [decide_eq_false ‹_›]
theorem eqScopeS_of {l : List tScope} (h : (l.length + sScopeS l) ≤ 1099511627776) : ∀ y : tScope, y ∈ l → y.2.length ≤ 1099511627776 ∧ (∀ z : tLiteral, z ∈ y.2 → z.2.2.1.length ≤ 1099511627776 ∧ (∀ w : tTNode, w ∈ z.2.2.1 → w.2.2.2.2.2.1.length ≤ 1099511627776 ∧ w.2.2.2.2.2.2.length ≤ 1099511627776) ∧ z.2.2.2.length ≤ 1099511627776 ∧ (∀ w : tTNode, w ∈ z.2.2.2 → w.2.2.2.2.2.1.length ≤ 1099511627776 ∧ w.2.2.2.2.2.2.length ≤ 1099511627776)) := by
 intro y hy
 have := sScopeS_mem hy
 exact ⟨(by omega), (fun z hz => by have := sLiteralS_mem hz; exact ⟨(by omega), (fun w hw => by have := sTNodeS_mem hw; exact ⟨(by omega), (by omega)⟩), (by omega), (fun w hw => by have := sTNodeS_mem hw; exact ⟨(by omega), (by omega)⟩)⟩)⟩
theorem laws_eqSession_ev {a0 b0 : List (List UInt8 × Int)} {a1 b1 : List (Int × List (Int × Bool × List (Int × Int × Int × Int × Int × List (Int) × List (Int)) × List (Int × Int × Int × Int × Int × List (Int) × List (Int))))} {a2 b2 : Int} (h0 : a0.length ≤ 1099511627776) (h1 : a1.length ≤ 1099511627776) (h2 : (∀ y : tScope, y ∈ a1 → y.2.length ≤ 1099511627776 ∧ (∀ z : tLiteral, z ∈ y.2 → z.2.2.1.length ≤ 1099511627776 ∧ (∀ w : tTNode, w ∈ z.2.2.1 → w.2.2.2.2.2.1.length ≤ 1099511627776 ∧ w.2.2.2.2.2.2.length ≤ 1099511627776) ∧ z.2.2.2.length ≤ 1099511627776 ∧ (∀ w : tTNode, w ∈ z.2.2.2 → w.2.2.2.2.2.1.length ≤ 1099511627776 ∧ w.2.2.2.2.2.2.length ≤ 1099511627776)))) (R : Nat → Bool → Prop) :
  Ev (fun n => laws_eqSession.c n a0 a1 a2 b0 b1 b2 (R n)) ↔ Ev (fun n => R n (decide (a0 = b0 ∧ a1 = b1 ∧ a2 = b2))) := by
 refine Ev.suc.trans ?_
 simp (disch := first | assumption | omega) only [laws_eqSession.c, laws_eqSession.w, laws_eqDeclS_ev, laws_eqScopeS_ev, Ev.iteI, Bool.not_eq_true', decide_eq_false_iff_not, beq_eq_false_iff_ne, ne_eq, Ev.s1 R]
 (repeat' split) <;> first | (rw [decide_eq_false]; simp_all; done) | (rw [decide_eq_true]; simp_all; done)
def mDeclS : List tDecl → Int → List tDecl
 | [], _ => []
 | y :: r, k => (mText k, k + 1) :: mDeclS r (k + 1 + 1)
def cDeclS : List tDecl → Nat
 | [] => 0
 | y :: r => (2) + cDeclS r
theorem laws_markDeclS_lp : ∀ (ys l : List tDecl) (k x : Int), l.drop x.toNat = ys → 0 ≤ x → l.length ≤ 1099511627776 → 0 < k → k + (cDeclS ys : Int) ≤ 4611686018427387904 → ∀ (Kx : Nat → Int → List tDecl → Prop),
  (Ev (fun n => laws_markDeclS.l2 n k x l (Kx n)) ↔ Ev (fun n => Kx n (k + (cDeclS ys : Int)) (l.take x.toNat ++ mDeclS ys k)))
 | [], l, k, x, h, h0, hl, hk, hb, Kx => by
  have := drop_nil h h0
  refine Ev.suc.trans ?_
  simp (disch := omega) only [laws_markDeclS.l2, laws_markDeclS.l2.b, if_neg, decide_eq_true_eq, Ev.s2 Kx]
  rw [List.take_of_length_le (by omega), mDeclS, List.append_nil]
  refine ev_arg2 ?_; simp [cDeclS]
 | y :: ys, l, k, x, h, h0, hl, hk, hb, Kx => by
  obtain ⟨e1, e2, e3⟩ := drop_cons h h0
  simp only [List.length_cons, cDeclS] at hb
  refine Ev.suc.trans ?_
  simp (disch := first | assumption | exact hy0.1 | exact hy0.2 | exact hy0.2.1 | exact hy0.2.2 | exact hy0.2.2.1 | exact hy0.2.2.2 | omega) only [laws_markDeclS.l2, laws_markDeclS.l2.b, if_pos, decide_eq_true_eq, Ev.s2 Kx, grd_dec2, wrap64, wrapU, rd_set, List.length_set, List.set_set, e2, markText_ev]
  rw [laws_markDeclS_lp ys _ _ (x + 1) (drop_set e3 (by omega)) (by omega) (by simpa using hl) (by omega) (by omega), Ev.s2 Kx, take_set (by omega) (by omega), List.append_assoc, mDeclS]
  simp only [List.length_cons, cDeclS, List.singleton_append]
  exact ev_arg3 (by omega) (by congr 2 <;> first | rfl | omega | (congr 1; omega) | skip)
theorem laws_markDeclS_ev {l : List tDecl} {k : Int} (hl : l.length ≤ 1099511627776) (hk : 0 < k) (hb : k + (cDeclS l : Int) ≤ 4611686018427387904) (R : Nat → Int → List tDecl → Prop) :
  Ev (fun n => laws_markDeclS.c n l k (R n)) ↔ Ev (fun n => R n (k + (cDeclS l : Int)) (mDeclS l k)) := by
 refine Ev.suc.trans ?_
 simp only [laws_markDeclS.c, laws_markDeclS.w]
 rw [laws_markDeclS_lp l l k 0 rfl (by omega) hl hk hb, Ev.s2 R]
 rfl
theorem cDeclS_le : ∀ {l : List tDecl}, cDeclS l ≤ 8 * (l.length + sDeclS l)
 | [] => by simp [cDeclS]
 | y :: r => by
  have := cDeclS_le (l := r)
  simp only [cDeclS, sDeclS, List.length_cons]; omega
theorem mDeclS_len : ∀ {l : List tDecl} {k : Int}, (mDeclS l k).length = l.length
 | [], _ => rfl
 | y :: l, k => by simp [mDeclS, mDeclS_len]
def mUint64S : List Int → Int → List Int
 | [], _ => []
 | y :: r, k => (k) :: mUint64S r (k + 1)
theorem laws_markUint64S_lp : ∀ (ys l : List Int) (k x : Int), l.drop x.toNat = ys → 0 ≤ x → l.length ≤ 1099511627776 → 0 < k → k + (ys.length : Int) ≤ 4611686018427387904 → ∀ (Kx : Nat → Int → List Int → Prop),
  (Ev (fun n => laws_markUint64S.l2 n k x l (Kx n)) ↔ Ev (fun n => Kx n (k + (ys.length : Int)) (l.take x.toNat ++ mUint64S ys k)))
 | [], l, k, x, h, h0, hl, hk, hb, Kx => by
  have := drop_nil h h0
  refine Ev.suc.trans ?_
  simp (disch := omega) only [laws_markUint64S.l2, laws_markUint64S.l2.b, if_neg, decide_eq_true_eq, Ev.s2 Kx]
  rw [List.take_of_length_le (by omega), mUint64S, List.append_nil]
  refine ev_arg2 ?_; simp
 | y :: ys, l, k, x, h, h0, hl, hk, hb, Kx => by
  obtain ⟨e1, e2, e3⟩ := drop_cons h h0
  simp only [List.length_cons] at hb
  refine Ev.suc.trans ?_
  simp (disch := first | assumption | exact hy0.1 | exact hy0.2 | exact hy0.2.1 | exact hy0.2.2 | exact hy0.2.2.1 | exact hy0.2.2.2 | omega) only [laws_markUint64S.l2, laws_markUint64S.l2.b, if_pos, decide_eq_true_eq, Ev.s2 Kx, grd_dec2, wrap64, wrapU, rd_set, List.length_set, List.set_set, e2]
  rw [laws_markUint64S_lp ys _ _ (x + 1) (drop_set e3 (by omega)) (by omega) (by simpa using hl) (by omega) (by omega), Ev.s2 Kx, take_set (by omega) (by omega), List.append_assoc, mUint64S]
  simp only [List.length_cons, List.singleton_append]
  exact ev_arg3 (by omega) (by congr 2 <;> first | rfl | omega | (congr 1; omega) | skip)
theorem laws_markUint64S_ev {l : List Int} {k : Int} (hl : l.length ≤ 1099511627776) (hk : 0 < k) (hb : k + (l.length : Int) ≤ 4611686018427387904) (R : Nat → Int → List Int → Prop) :
  Ev (fun n => laws_markUint64S.c n l k (R n)) ↔ Ev (fun n => R n (k + (l.length : Int)) (mUint64S l k)) := by
 refine Ev.suc.trans ?_
 simp only [laws_markUint64S.c, laws_markUint64S.w]
 rw [laws_markUint64S_lp l l k 0 rfl (by omega) hl hk hb, Ev.s2 R]
 rfl
theorem mUint64S_len : ∀ {l : List Int} {k : Int}, (mUint64S l k).length = l.length
 | [], _ => rfl
 | y :: l, k => by simp [mUint64S, mUint64S_len]
def mInt64S : List Int → Int → List Int
 | [], _ => []
 | y :: r, k => (k) :: mInt64S r (k + 1)
theorem laws_markInt64S_lp : ∀ (ys l : List Int) (k x : Int), l.drop x.toNat = ys → 0 ≤ x → l.length ≤ 1099511627776 → 0 < k → k + (ys.length : Int) ≤ 4611686018427387904 → ∀ (Kx : Nat → Int → List Int → Prop),
  (Ev (fun n => laws_markInt64S.l2 n k x l (Kx n)) ↔ Ev (fun n => Kx n (k + (ys.length : Int)) (l.take x.toNat ++ mInt64S ys k)))
 | [], l, k, x, h, h0, hl, hk, hb, Kx => by
  have := drop_nil h h0
  refine Ev.suc.trans ?_
  simp (disch := omega) only [laws_markInt64S.l2, laws_markInt64S.l2.b, if_neg, decide_eq_true_eq, Ev.s2 Kx]
  rw [List.take_of_length_le (by omega), mInt64S, List.append_nil]
  refine ev_arg2 ?_; simp
 | y :: ys, l, k, x, h, h0, hl, hk, hb, Kx => by
  obtain ⟨e1, e2, e3⟩ := drop_cons h h0
  simp only [List.length_cons] at hb
  refine Ev.suc.trans ?_
  simp (disch := first | assumption | exact hy0.1 | exact hy0.2 | exact hy0.2.1 | exact hy0.2.2 | exact hy0.2.2.1 | exact hy0.2.2.2 | omega) only [laws_markInt64S.l2, laws_markInt64S.l2.b, if_pos, decide_eq_true_eq, Ev.s2 Kx, grd_dec2, wrap64, wrapU, rd_set, List.length_set, List.set_set, e2]
  rw [laws_markInt64S_lp ys _ _ (x + 1) (drop_set e3 (by omega)) (by omega) (by simpa using hl) (by omega) (by omega), Ev.s2 Kx, take_set (by omega) (by omega), List.append_assoc, mInt64S]
  simp only [List.length_cons, List.singleton_append]
  exact ev_arg3 (by omega) (by congr 2 <;> first | rfl | omega | (congr 1; omega) | skip)
theorem laws_markInt64S_ev {l : List Int} {k : Int} (hl : l.length ≤ 1099511627776) (hk : 0 < k) (hb : k + (l.length : Int) ≤ 4611686018427387904) (R : Nat → Int → List Int → Prop) :
  Ev (fun n => laws_markInt64S.c n l k (R n)) ↔ Ev (fun n => R n (k + (l.length : Int)) (mInt64S l k)) := by
 refine Ev.suc.trans ?_
 simp only [laws_markInt64S.c, laws_markInt64S.w]
 rw [laws_markInt64S_lp l l k 0 rfl (by omega) hl hk hb, Ev.s2 R]
 rfl
theorem mInt64S_len : ∀ {l : List Int} {k : Int}, (mInt64S l k).length = l.length
 | [], _ => rfl
 | y :: l, k => by simp [mInt64S, mInt64S_len]
def mTNodeS : List tTNode → Int → List tTNode
 | [], _ => []
 | y :: r, k => (k, k + 1, k + 1 + 1, k + 1 + 1 + 1, k + 1 + 1 + 1 + 1, mUint64S y.2.2.2.2.2.1 (k + 1 + 1 + 1 + 1 + 1), mInt64S y.2.2.2.2.2.2 (k + 1 + 1 + 1 + 1 + 1 + ((y.2.2.2.2.2.1.length : Nat) : Int))) :: mTNodeS r (k + 1 + 1 + 1 + 1 + 1 + ((y.2.2.2.2.2.1.length : Nat) : Int) + ((y.2.2.2.2.2.2.length : Nat) : Int))
def cTNodeS : List tTNode → Nat
 | [] => 0
 | y :: r => (5 + y.2.2.2.2.2.1.length + y.2.2.2.2.2.2.length) + cTNodeS r
theorem laws_markTNodeS_lp : ∀ (ys l : List tTNode) (k x : Int), l.drop x.toNat = ys → 0 ≤ x → l.length ≤ 1099511627776 → 0 < k → k + (cTNodeS ys : Int) ≤ 4611686018427387904 → (∀ y ∈ ys, y.2.2.2.2.2.1.length ≤ 1099511627776 ∧ y.2.2.2.2.2.2.length ≤ 1099511627776) → ∀ (Kx : Nat → Int → List tTNode → Prop),
  (Ev (fun n => laws_markTNodeS.l2 n k x l (Kx n)) ↔ Ev (fun n => Kx n (k + (cTNodeS ys : Int)) (l.take x.toNat ++ mTNodeS ys k)))
 | [], l, k, x, h, h0, hl, hk, hb, hy, Kx => by
  have := drop_nil h h0
  refine Ev.suc.trans ?_
  simp (disch := omega) only [laws_markTNodeS.l2, laws_markTNodeS.l2.b, if_neg, decide_eq_true_eq, Ev.s2 Kx]
  rw [List.take_of_length_le (by omega), mTNodeS, List.append_nil]
  refine ev_arg2 ?_; simp [cTNodeS]
 | y :: ys, l, k, x, h, h0, hl, hk, hb, hy, Kx => by
  obtain ⟨e1, e2, e3⟩ := drop_cons h h0
  have hy0 := hy y List.mem_cons_self
  simp only [List.length_cons, cTNodeS] at hb
  refine Ev.suc.trans ?_
  simp (disch := first | assumption | exact hy0.1 | exact hy0.2 | exact hy0.2.1 | exact hy0.2.2 | exact hy0.2.2.1 | exact hy0.2.2.2 | omega) only [laws_markTNodeS.l2, laws_markTNodeS.l2.b, if_pos, decide_eq_true_eq, Ev.s2 Kx, grd_dec2, wrap64, wrapU, rd_set, List.length_set, List.set_set, e2, laws_markInt64S_ev, laws_markUint64S_ev]
  rw [laws_markTNodeS_lp ys _ _ (x + 1) (drop_set e3 (by omega)) (by omega) (by simpa using hl) (by omega) (by omega) (fun y hy' => hy y (List.mem_cons_of_mem _ hy')), Ev.s2 Kx, take_set (by omega) (by omega), List.append_assoc, mTNodeS]
  simp only [List.length_cons, cTNodeS, List.singleton_append]
  exact ev_arg3 (by omega) (by congr 2 <;> first | rfl | omega | (congr 1; omega) | skip)
theorem laws_markTNodeS_ev {l : List tTNode} {k : Int} (hl : l.length ≤ 1099511627776) (hk : 0 < k) (hb : k + (cTNodeS l : Int) ≤ 4611686018427387904) (hy : ∀ y ∈ l, y.2.2.2.2.2.1.length ≤ 1099511627776 ∧ y.2.2.2.2.2.2.length ≤ 1099511627776) (R : Nat → Int → List tTNode → Prop) :
  Ev (fun n => laws_markTNodeS.c n l k (R n)) ↔ Ev (fun n => R n (k + (cTNodeS l : Int)) (mTNodeS l k)) := by
 refine Ev.suc.trans ?_
 simp only [laws_markTNodeS.c, laws_markTNodeS.w]
 rw [laws_markTNodeS_lp l l k 0 rfl (by omega) hl hk hb hy, Ev.s2 R]
 rfl
theorem cTNodeS_le : ∀ {l : List tTNode}, cTNodeS l ≤ 8 * (l.length + sTNodeS l)
 | [] => by simp [cTNodeS]
 | y :: r => by
  have := cTNodeS_le (l := r)
  simp only [cTNodeS, sTNodeS, List.length_cons]; omega
theorem mTNodeS_len : ∀ {l : List tTNode} {k : Int}, (mTNodeS l k).length = l.length
 | [], _ => rfl
 | y :: l, k => by simp [mTNodeS, mTNodeS_len]
def mLiteralS : List tLiteral → Int → List tLiteral
 | [], _ => []
 | y :: r, k => (k, decide (Int.tmod (k + 1) 3 = 0), mTNodeS y.2.2.1 (k + 1 + 1), mTNodeS y.2.2.2 (k + 1 + 1 + ((cTNodeS y.2.2.1 : Nat) : Int))) :: mLiteralS r (k + 1 + 1 + ((cTNodeS y.2.2.1 : Nat) : Int) + ((cTNodeS y.2.2.2 : Nat) : Int))
def cLiteralS : List tLiteral → Nat
 | [] => 0
 | y :: r => (2 + (cTNodeS y.2.2.1) + (cTNodeS y.2.2.2)) + cLiteralS r
theorem laws_markLiteralS_lp : ∀ (ys l : List tLiteral) (k x : Int), l.drop x.toNat = ys → 0 ≤ x → l.length ≤ 1099511627776 → 0 < k → k + (cLiteralS ys : Int) ≤ 4611686018427387904 → (∀ y ∈ ys, y.2.2.1.length ≤ 1099511627776 ∧ (∀ z : tTNode, z ∈ y.2.2.1 → z.2.2.2.2.2.1.length ≤ 1099511627776 ∧ z.2.2.2.2.2.2.length ≤ 1099511627776) ∧ y.2.2.2.length ≤ 1099511627776 ∧ (∀ z : tTNode, z ∈ y.2.2.2 → z.2.2.2.2.2.1.length ≤ 1099511627776 ∧ z.2.2.2.2.2.2.length ≤ 1099511627776)) → ∀ (Kx : Nat → Int → List tLiteral → Prop),
  (Ev (fun n => laws_markLiteralS.l2 n k x l (Kx n)) ↔ Ev (fun n => Kx n (k + (cLiteralS ys : Int)) (l.take x.toNat ++ mLiteralS ys k)))
 | [], l, k, x, h, h0, hl, hk, hb, hy, Kx => by
  have := drop_nil h h0
  refine Ev.suc.trans ?_
  simp (disch := omega) only [laws_markLiteralS.l2, laws_markLiteralS.l2.b, if_neg, decide_eq_true_eq, Ev.s2 Kx]
  rw [List.take_of_length_le (by omega), mLiteralS, List.append_nil]
  refine ev_arg2 ?_; simp [cLiteralS]
 | y :: ys, l, k, x, h, h0, hl, hk, hb, hy, Kx => by
  obtain ⟨e1, e2, e3⟩ := drop_cons h h0
  have hy0 := hy y List.mem_cons_self
  simp only [List.length_cons, cLiteralS] at hb
  refine Ev.suc.trans ?_
  simp (disch := first | assumption | exact hy0.1 | exact hy0.2 | exact hy0.2.1 | exact hy0.2.2 | exact hy0.2.2.1 | exact hy0.2.2.2 | omega) only [laws_markLiteralS.l2, laws_markLiteralS.l2.b, if_pos, decide_eq_true_eq, Ev.s2 Kx, grd_dec2, wrap64, wrapU, rd_set, List.length_set, List.set_set, e2, laws_markTNodeS_ev]
  rw [laws_markLiteralS_lp ys _ _ (x + 1) (drop_set e3 (by omega)) (by omega) (by simpa using hl) (by omega) (by omega) (fun y hy' => hy y (List.mem_cons_of_mem _ hy')), Ev.s2 Kx, take_set (by omega) (by omega), List.append_assoc, mLiteralS]
  simp only [List.length_cons, cLiteralS, List.singleton_append]
  exact ev_arg3 (by omega) (by congr 2 <;> first | rfl | omega | (congr 1; omega) | skip)
theorem laws_markLiteralS_ev {l : List tLiteral} {k : Int} (hl : l.length ≤ 1099511627776) (hk : 0 < k) (hb : k + (cLiteralS l : Int) ≤ 4611686018427387904) (hy : ∀ y ∈ l, y.2.2.1.length ≤ 1099511627776 ∧ (∀ z : tTNode, z ∈ y.2.2.1 → z.2.2.2.2.2.1.length ≤ 1099511627776 ∧ z.2.2.2.2.2.2.length ≤ 1099511627776) ∧ y.2.2.2.length ≤ 1099511627776 ∧ (∀ z : tTNode, z ∈ y.2.2.2 → z.2.2.2.2.2.1.length ≤ 1099511627776 ∧ z.2.2.2.2.2.2.length ≤ 1099511627776)) (R : Nat → Int → List tLiteral → Prop) :
  Ev (fun n => laws_markLiteralS.c n l k (R n)) ↔ Ev (fun n => R n (k + (cLiteralS l : Int)) (mLiteralS l k)) := by
 refine Ev.suc.trans ?_
 simp only [laws_markLiteralS.c, laws_markLiteralS.w]
 rw [laws_markLiteralS_lp l l k 0 rfl (by omega) hl hk hb hy, Ev.s2 R]
 rfl
theorem cLiteralS_le : ∀ {l : List tLiteral}, cLiteralS l ≤ 8 * (l.length + sLiteralS l)
 | [] => by simp [cLiteralS]
 | y :: r => by
  have := cLiteralS_le (l := r)
  have := cTNodeS_le (l := y.2.2.1)
  have := cTNodeS_le (l := y.2.2.2)
  simp only [cLiteralS, sLiteralS, List.length_cons]; omega
theorem mLiteralS_len : ∀ {l : List tLiteral} {k : Int}, (mLiteralS l k).length = l.length
 | [], _ => rfl
 | y :: l, k => by simp [mLiteralS, mLiteralS_len]
def mScopeS : List tScope → Int → List tScope
 | [], _ => []
 | y :: r, k => (k, mLiteralS y.2 (k + 1)) :: mScopeS r (k + 1 + ((cLiteralS y.2 : Nat) : Int))
def cScopeS : List tScope → Nat
 | [] => 0
 | y :: r => (1 + (cLiteralS y.2)) + cScopeS r
theorem laws_markScopeS_lp : ∀ (ys l : List tScope) (k x : Int), l.drop x.toNat = ys → 0 ≤ x → l.length ≤ 1099511627776 → 0 < k → k + (cScopeS ys : Int) ≤ 4611686018427387904 → (∀ y ∈ ys, y.2.length ≤ 1099511627776 ∧ (∀ z : tLiteral, z ∈ y.2 → z.2.2.1.length ≤ 1099511627776 ∧ (∀ w : tTNode, w ∈ z.2.2.1 → w.2.2.2.2.2.1.length ≤ 1099511627776 ∧ w.2.2.2.2.2.2.length ≤ 1099511627776) ∧ z.2.2.2.length ≤ 1099511627776 ∧ (∀ w : tTNode, w ∈ z.2.2.2 → w.2.2.2.2.2.1.length ≤ 1099511627776 ∧ w.2.2.2.2.2.2.length ≤ 1099511627776))) → ∀ (Kx : Nat → Int → List tScope → Prop),
  (Ev (fun n => laws_markScopeS.l2 n k x l (Kx n)) ↔ Ev (fun n => Kx n (k + (cScopeS ys : Int)) (l.take x.toNat ++ mScopeS ys k)))
 | [], l, k, x, h, h0, hl, hk, hb, hy, Kx => by
  have := drop_nil h h0
  refine Ev.suc.trans ?_
  simp (disch := omega) only [laws_markScopeS.l2, laws_markScopeS.l2.b, if_neg, decide_eq_true_eq, Ev.s2 Kx]
  rw [List.take_of_length_le (by omega), mScopeS, List.append_nil]
  refine ev_arg2 ?_; simp [cScopeS]
 | y :: ys, l, k, x, h, h0, hl, hk, hb, hy, Kx => by
  obtain ⟨e1, e2, e3⟩ := drop_cons h h0
  have hy0 := hy y List.mem_cons_self
  simp only [List.length_cons, cScopeS] at hb
  refine Ev.suc.trans ?_
  simp (disch := first | assumption | exact hy0.1 | exact hy0.2 | exact hy0.2.1 | exact hy0.2.2 | exact hy0.2.2.1 | exact hy0.2.2.2 | omega) only [laws_markScopeS.l2, laws_markScopeS.l2.b, if_pos, decide_eq_true_eq, Ev.s2 Kx, grd_dec2, wrap64, wrapU, rd_set, List.length_set, List.set_set, e2, laws_markLiteralS_ev]
  rw [laws_markScopeS_lp ys _ _ (x + 1) (drop_set e3 (by omega)) (by omega) (by simpa using hl) (by omega) (by omega) (fun y hy' => hy y (List.mem_cons_of_mem _ hy')), Ev.s2 Kx, take_set (by omega) (by omega), List.append_assoc, mScopeS]
  simp only [List.length_cons, cScopeS, List.singleton_append]
  exact ev_arg3 (by omega) (by congr 2 <;> first | rfl | omega | (congr 1; omega) | skip)
theorem laws_markScopeS_ev {l : List tScope} {k : Int} (hl : l.length ≤ 1099511627776) (hk : 0 < k) (hb : k + (cScopeS l : Int) ≤ 4611686018427387904) (hy : ∀ y ∈ l, y.2.length ≤ 1099511627776 ∧ (∀ z : tLiteral, z ∈ y.2 → z.2.2.1.length ≤ 1099511627776 ∧ (∀ w : tTNode, w ∈ z.2.2.1 → w.2.2.2.2.2.1.length ≤ 1099511627776 ∧ w.2.2.2.2.2.2.length ≤ 1099511627776) ∧ z.2.2.2.length ≤ 1099511627776 ∧ (∀ w : tTNode, w ∈ z.2.2.2 → w.2.2.2.2.2.1.length ≤ 1099511627776 ∧ w.2.2.2.2.2.2.length ≤ 1099511627776))) (R : Nat → Int → List tScope → Prop) :
  Ev (fun n => laws_markScopeS.c n l k (R n)) ↔ Ev (fun n => R n (k + (cScopeS l : Int)) (mScopeS l k)) := by
 refine Ev.suc.trans ?_
 simp only [laws_markScopeS.c, laws_markScopeS.w]
 rw [laws_markScopeS_lp l l k 0 rfl (by omega) hl hk hb hy, Ev.s2 R]
 rfl
theorem markScopeS_of {l : List tScope} (h : (l.length + sScopeS l) ≤ 1099511627776) : ∀ y : tScope, y ∈ l → y.2.length ≤ 1099511627776 ∧ (∀ z : tLiteral, z ∈ y.2 → z.2.2.1.length ≤ 1099511627776 ∧ (∀ w : tTNode, w ∈ z.2.2.1 → w.2.2.2.2.2.1.length ≤ 1099511627776 ∧ w.2.2.2.2.2.2.length ≤ 1099511627776) ∧ z.2.2.2.length ≤ 1099511627776 ∧ (∀ w : tTNode, w ∈ z.2.2.2 → w.2.2.2.2.2.1.length ≤ 1099511627776 ∧ w.2.2.2.2.2.2.length ≤ 1099511627776)) := by
 intro y hy
 have := sScopeS_mem hy
 exact ⟨(by omega), (fun z hz => by have := sLiteralS_mem hz; exact ⟨(by omega), (fun w hw => by have := sTNodeS_mem hw; exact ⟨(by omega), (by omega)⟩), (by omega), (fun w hw => by have := sTNodeS_mem hw; exact ⟨(by omega), (by omega)⟩)⟩)⟩
theorem cScopeS_le : ∀ {l : List tScope}, cScopeS l ≤ 8 * (l.length + sScopeS l)
 | [] => by simp [cScopeS]
 | y :: r => by
  have := cScopeS_le (l := r)
  have := cLiteralS_le (l := y.2)
  simp only [cScopeS, sScopeS, List.length_cons]; omega
theorem mScopeS_len : ∀ {l : List tScope} {k : Int}, (mScopeS l k).length = l.length
 | [], _ => rfl
 | y :: l, k => by simp [mScopeS, mScopeS_len]
theorem laws_markSession_ev {a0 : List (List UInt8 × Int)} {a1 : List (Int × List (Int × Bool × List (Int × Int × Int × Int × Int × List (Int) × List (Int)) × List (Int × Int × Int × Int × Int × List (Int) × List (Int))))} {a2 : Int} {k : Int} (hk : 0 < k) (hb : k + (((cDeclS a0) + (cScopeS a1) : Nat) : Int) ≤ 4611686018427387904) (g0 : a0.length ≤ 1099511627776) (g1 : a1.length ≤ 1099511627776) (g2 : (∀ y : tScope, y ∈ a1 → y.2.length ≤ 1099511627776 ∧ (∀ z : tLiteral, z ∈ y.2 → z.2.2.1.length ≤ 1099511627776 ∧ (∀ w : tTNode, w ∈ z.2.2.1 → w.2.2.2.2.2.1.length ≤ 1099511627776 ∧ w.2.2.2.2.2.2.length ≤ 1099511627776) ∧ z.2.2.2.length ≤ 1099511627776 ∧ (∀ w : tTNode, w ∈ z.2.2.2 → w.2.2.2.2.2.1.length ≤ 1099511627776 ∧ w.2.2.2.2.2.2.length ≤ 1099511627776)))) (R : Nat → Int → List (List UInt8 × Int) → List (Int × List (Int × Bool × List (Int × Int × Int × Int × Int × List (Int) × List (Int)) × List (Int × Int × Int × Int × Int × List (Int) × List (Int)))) → Int → Prop) :
  Ev (fun n => laws_markSession.c n a0 a1 a2 k (R n)) ↔ Ev (fun n => R n (k + (((cDeclS a0) + (cScopeS a1) : Nat) : Int)) (mDeclS a0 k) (mScopeS a1 (k + ((cDeclS a0 : Nat) : Int))) a2) := by
 refine Ev.suc.trans ?_
 simp (disch := first | assumption | omega) only [laws_markSession.c, laws_markSession.w, laws_markDeclS_ev, laws_markScopeS_ev, Ev.s4 R]
 exact ev_arg4n (by omega)
theorem laws_heldDeclS_lp {l : List tDecl} (hl : l.length ≤ 1099511627776) : ∀ (ys : List tDecl) (k x : Int), l.drop x.toNat = mDeclS ys k → 0 ≤ x → 0 < k → k + (cDeclS ys : Int) ≤ 4611686018427387904 → ∀ (Kx Kr : Nat → Int → Prop),
  (Ev (fun n => laws_heldDeclS.l2 n l k x (Kx n) (Kr n)) ↔ Ev (fun n => Kx n (k + (cDeclS ys : Int))))
 | [], k, x, h, h0, hk, hb, Kx, Kr => by
  have := drop_nil h h0
  refine Ev.suc.trans ?_
  simp (disch := omega) only [laws_heldDeclS.l2, laws_heldDeclS.l2.b, if_neg, decide_eq_true_eq, Ev.s1 Kx, laws_heldDeclS.j3, and_self]
  refine ev_arg ?_; simp [cDeclS]
 | y :: ys, k, x, h, h0, hk, hb, Kx, Kr => by
  obtain ⟨e1, e2, e3⟩ := drop_cons h h0
  simp only [List.length_cons, cDeclS] at hb
  refine Ev.suc.trans ?_
  simp (disch := first | assumption | exact hy0.1 | exact hy0.2 | exact hy0.2.1 | exact hy0.2.2 | exact hy0.2.2.1 | exact hy0.2.2.2 | omega) only [laws_heldDeclS.l2, laws_heldDeclS.l2.b, if_pos, if_neg, decide_eq_true_eq, Bool.not_eq_true', decide_eq_false_iff_not, not_true, if_false, Ev.s1 Kx, grd_dec2, wrap64, wrapU, e2, markText_ev, beq_self_eq_true, Bool.true_eq_false, Bool.not_true, Bool.false_eq_true, decide_true, decide_not, Ev.iteI, laws_heldDeclS.j3, and_self]
  rw [laws_heldDeclS_lp hl ys _ (x + 1) (by first | exact e3 | (rw [e3]; congr 1 <;> omega)) (by omega) (by omega) (by omega), Ev.s1 Kx]
  refine ev_arg ?_; simp only [List.length_cons, cDeclS]; try omega
theorem laws_heldDeclS_ev {l : List tDecl} {k : Int} (hl : l.length ≤ 1099511627776) (hk : 0 < k) (hb : k + (cDeclS l : Int) ≤ 4611686018427387904) (R : Nat → Int → Prop) :
  Ev (fun n => laws_heldDeclS.c n (mDeclS l k) k (R n)) ↔ Ev (fun n => R n (k + (cDeclS l : Int))) := by
 refine Ev.suc.trans ?_
 simp only [laws_heldDeclS.c, laws_heldDeclS.w, laws_heldDeclS.j3, and_self]
 rw [laws_heldDeclS_lp (by rw [mDeclS_len]; exact hl) l k 0 rfl (by omega) hk hb, Ev.s1 R]
theorem laws_heldUint64S_lp {l : List Int} (hl : l.length ≤ 1099511627776) : ∀ (ys : List Int) (k x : Int), l.drop x.toNat = mUint64S ys k → 0 ≤ x → 0 < k → k + (ys.length : Int) ≤ 4611686018427387904 → ∀ (Kx Kr : Nat → Int → Prop),
  (Ev (fun n => laws_heldUint64S.l2 n l k x (Kx n) (Kr n)) ↔ Ev (fun n => Kx n (k + (ys.length : Int))))
 | [], k, x, h, h0, hk, hb, Kx, Kr => by
  have := drop_nil h h0
  refine Ev.suc.trans ?_
  simp (disch := omega) only [laws_heldUint64S.l2, laws_heldUint64S.l2.b, if_neg, decide_eq_true_eq, Ev.s1 Kx]
  refine ev_arg ?_; simp
 | y :: ys, k, x, h, h0, hk, hb, Kx, Kr => by
  obtain ⟨e1, e2, e3⟩ := drop_cons h h0
  simp only [List.length_cons] at hb
  refine Ev.suc.trans ?_
  simp (disch := first | assumption | exact hy0.1 | exact hy0.2 | exact hy0.2.1 | exact hy0.2.2 | exact hy0.2.2.1 | exact hy0.2.2.2 | omega) only [laws_heldUint64S.l2, laws_heldUint64S.l2.b, if_pos, if_neg, decide_eq_true_eq, Bool.not_eq_true', decide_eq_false_iff_not, not_true, if_false, Ev.s1 Kx, grd_dec2, wrap64, wrapU, e2, beq_self_eq_true, Bool.true_eq_false, Bool.not_true, Bool.false_eq_true, decide_true, decide_not, Ev.iteI]
  rw [laws_heldUint64S_lp hl ys _ (x + 1) (by first | exact e3 | (rw [e3]; congr 1 <;> omega)) (by omega) (by omega) (by omega), Ev.s1 Kx]
  refine ev_arg ?_; simp only [List.length_cons]; try omega
theorem laws_heldUint64S_ev {l : List Int} {k : Int} (hl : l.length ≤ 1099511627776) (hk : 0 < k) (hb : k + (l.length : Int) ≤ 4611686018427387904) (R : Nat → Int → Prop) :
  Ev (fun n => laws_heldUint64S.c n (mUint64S l k) k (R n)) ↔ Ev (fun n => R n (k + (l.length : Int))) := by
 refine Ev.suc.trans ?_
 simp only [laws_heldUint64S.c, laws_heldUint64S.w]
 rw [laws_heldUint64S_lp (by rw [mUint64S_len]; exact hl) l k 0 rfl (by omega) hk hb, Ev.s1 R]
theorem laws_heldInt64S_lp {l : List Int} (hl : l.length ≤ 1099511627776) : ∀ (ys : List Int) (k x : Int), l.drop x.toNat = mInt64S ys k → 0 ≤ x → 0 < k → k + (ys.length : Int) ≤ 4611686018427387904 → ∀ (Kx Kr : Nat → Int → Prop),
  (Ev (fun n => laws_heldInt64S.l2 n l k x (Kx n) (Kr n)) ↔ Ev (fun n => Kx n (k + (ys.length : Int))))
 | [], k, x, h, h0, hk, hb, Kx, Kr => by
  have := drop_nil h h0
  refine Ev.suc.trans ?_
  simp (disch := omega) only [laws_heldInt64S.l2, laws_heldInt64S.l2.b, if_neg, decide_eq_true_eq, Ev.s1 Kx]
  refine ev_arg ?_; simp
 | y :: ys, k, x, h, h0, hk, hb, Kx, Kr => by
  obtain ⟨e1, e2, e3⟩ := drop_cons h h0
  simp only [List.length_cons] at hb
  refine Ev.suc.trans ?_
  simp (disch := first | assumption | exact hy0.1 | exact hy0.2 | exact hy0.2.1 | exact hy0.2.2 | exact hy0.2.2.1 | exact hy0.2.2.2 | omega) only [laws_heldInt64S.l2, laws_heldInt64S.l2.b, if_pos, if_neg, decide_eq_true_eq, Bool.not_eq_true', decide_eq_false_iff_not, not_true, if_false, Ev.s1 Kx, grd_dec2, wrap64, wrapU, e2, beq_self_eq_true, Bool.true_eq_false, Bool.not_true, Bool.false_eq_true, decide_true, decide_not, Ev.iteI]
  rw [laws_heldInt64S_lp hl ys _ (x + 1) (by first | exact e3 | (rw [e3]; congr 1 <;> omega)) (by omega) (by omega) (by omega), Ev.s1 Kx]
  refine ev_arg ?_; simp only [List.length_cons]; try omega
theorem laws_heldInt64S_ev {l : List Int} {k : Int} (hl : l.length ≤ 1099511627776) (hk : 0 < k) (hb : k + (l.length : Int) ≤ 4611686018427387904) (R : Nat → Int → Prop) :
  Ev (fun n => laws_heldInt64S.c n (mInt64S l k) k (R n)) ↔ Ev (fun n => R n (k + (l.length : Int))) := by
 refine Ev.suc.trans ?_
 simp only [laws_heldInt64S.c, laws_heldInt64S.w]
 rw [laws_heldInt64S_lp (by rw [mInt64S_len]; exact hl) l k 0 rfl (by omega) hk hb, Ev.s1 R]
theorem laws_heldTNodeS_lp {l : List tTNode} (hl : l.length ≤ 1099511627776) : ∀ (ys : List tTNode) (k x : Int), l.drop x.toNat = mTNodeS ys k → 0 ≤ x → 0 < k → k + (cTNodeS ys : Int) ≤ 4611686018427387904 → (∀ y ∈ ys, y.2.2.2.2.2.1.length ≤ 1099511627776 ∧ y.2.2.2.2.2.2.length ≤ 1099511627776) → ∀ (Kx Kr : Nat → Int → Prop),
  (Ev (fun n => laws_heldTNodeS.l2 n l k x (Kx n) (Kr n)) ↔ Ev (fun n => Kx n (k + (cTNodeS ys : Int))))
 | [], k, x, h, h0, hk, hb, hy, Kx, Kr => by
  have := drop_nil h h0
  refine Ev.suc.trans ?_
  simp (disch := omega) only [laws_heldTNodeS.l2, laws_heldTNodeS.l2.b, if_neg, decide_eq_true_eq, Ev.s1 Kx]
  refine ev_arg ?_; simp [cTNodeS]
 | y :: ys, k, x, h, h0, hk, hb, hy, Kx, Kr => by
  obtain ⟨e1, e2, e3⟩ := drop_cons h h0
  have hy0 := hy y List.mem_cons_self
  simp only [List.length_cons, cTNodeS] at hb
  refine Ev.suc.trans ?_
  simp (disch := first | assumption | exact hy0.1 | exact hy0.2 | exact hy0.2.1 | exact hy0.2.2 | exact hy0.2.2.1 | exact hy0.2.2.2 | omega) only [laws_heldTNodeS.l2, laws_heldTNodeS.l2.b, if_pos, if_neg, decide_eq_true_eq, Bool.not_eq_true', decide_eq_false_iff_not, not_true, if_false, Ev.s1 Kx, grd_dec2, wrap64, wrapU, e2, laws_heldInt64S_ev, laws_heldUint64S_ev, beq_self_eq_true, Bool.true_eq_false, Bool.not_true, Bool.false_eq_true, decide_true, decide_not, Ev.iteI]
  rw [laws_heldTNodeS_lp hl ys _ (x + 1) (by first | exact e3 | (rw [e3]; congr 1 <;> omega)) (by omega) (by omega) (by omega) (fun y hy' => hy y (List.mem_cons_of_mem _ hy')), Ev.s1 Kx]
  refine ev_arg ?_; simp only [List.length_cons, cTNodeS]; try omega
theorem laws_heldTNodeS_ev {l : List tTNode} {k : Int} (hl : l.length ≤ 1099511627776) (hk : 0 < k) (hb : k + (cTNodeS l : Int) ≤ 4611686018427387904) (hy : ∀ y ∈ l, y.2.2.2.2.2.1.length ≤ 1099511627776 ∧ y.2.2.2.2.2.2.length ≤ 1099511627776) (R : Nat → Int → Prop) :
  Ev (fun n => laws_heldTNodeS.c n (mTNodeS l k) k (R n)) ↔ Ev (fun n => R n (k + (cTNodeS l : Int))) := by
 refine Ev.suc.trans ?_
 simp only [laws_heldTNodeS.c, laws_heldTNodeS.w]
 rw [laws_heldTNodeS_lp (by rw [mTNodeS_len]; exact hl) l k 0 rfl (by omega) hk hb hy, Ev.s1 R]
theorem laws_heldLiteralS_lp {l : List tLiteral} (hl : l.length ≤ 1099511627776) : ∀ (ys : List tLiteral) (k x : Int), l.drop x.toNat = mLiteralS ys k → 0 ≤ x → 0 < k → k + (cLiteralS ys : Int) ≤ 4611686018427387904 → (∀ y ∈ ys, y.2.2.1.length ≤ 1099511627776 ∧ (∀ z : tTNode, z ∈ y.2.2.1 → z.2.2.2.2.2.1.length ≤ 1099511627776 ∧ z.2.2.2.2.2.2.length ≤ 1099511627776) ∧ y.2.2.2.length ≤ 1099511627776 ∧ (∀ z : tTNode, z ∈ y.2.2.2 → z.2.2.2.2.2.1.length ≤ 1099511627776 ∧ z.2.2.2.2.2.2.length ≤ 1099511627776)) → ∀ (Kx Kr : Nat → Int → Prop),
  (Ev (fun n => laws_heldLiteralS.l2 n l k x (Kx n) (Kr n)) ↔ Ev (fun n => Kx n (k + (cLiteralS ys : Int))))
 | [], k, x, h, h0, hk, hb, hy, Kx, Kr => by
  have := drop_nil h h0
  refine Ev.suc.trans ?_
  simp (disch := omega) only [laws_heldLiteralS.l2, laws_heldLiteralS.l2.b, if_neg, decide_eq_true_eq, Ev.s1 Kx]
  refine ev_arg ?_; simp [cLiteralS]
 | y :: ys, k, x, h, h0, hk, hb, hy, Kx, Kr => by
  obtain ⟨e1, e2, e3⟩ := drop_cons h h0
  have hy0 := hy y List.mem_cons_self
  simp only [List.length_cons, cLiteralS] at hb
  refine Ev.suc.trans ?_
  simp (disch := first | assumption | exact hy0.1 | exact hy0.2 | exact hy0.2.1 | exact hy0.2.2 | exact hy0.2.2.1 | exact hy0.2.2.2 | omega) only [laws_heldLiteralS.l2, laws_heldLiteralS.l2.b, if_pos, if_neg, decide_eq_true_eq, Bool.not_eq_true', decide_eq_false_iff_not, not_true, if_false, Ev.s1 Kx, grd_dec2, wrap64, wrapU, e2, laws_heldTNodeS_ev, beq_self_eq_true, Bool.true_eq_false, Bool.not_true, Bool.false_eq_true, decide_true, decide_not, Ev.iteI]
  rw [laws_heldLiteralS_lp hl ys _ (x + 1) (by first | exact e3 | (rw [e3]; congr 1 <;> omega)) (by omega) (by omega) (by omega) (fun y hy' => hy y (List.mem_cons_of_mem _ hy')), Ev.s1 Kx]
  refine ev_arg ?_; simp only [List.length_cons, cLiteralS]; try omega
theorem laws_heldLiteralS_ev {l : List tLiteral} {k : Int} (hl : l.length ≤ 1099511627776) (hk : 0 < k) (hb : k + (cLiteralS l : Int) ≤ 4611686018427387904) (hy : ∀ y ∈ l, y.2.2.1.length ≤ 1099511627776 ∧ (∀ z : tTNode, z ∈ y.2.2.1 → z.2.2.2.2.2.1.length ≤ 1099511627776 ∧ z.2.2.2.2.2.2.length ≤ 1099511627776) ∧ y.2.2.2.length ≤ 1099511627776 ∧ (∀ z : tTNode, z ∈ y.2.2.2 → z.2.2.2.2.2.1.length ≤ 1099511627776 ∧ z.2.2.2.2.2.2.length ≤ 1099511627776)) (R : Nat → Int → Prop) :
  Ev (fun n => laws_heldLiteralS.c n (mLiteralS l k) k (R n)) ↔ Ev (fun n => R n (k + (cLiteralS l : Int))) := by
 refine Ev.suc.trans ?_
 simp only [laws_heldLiteralS.c, laws_heldLiteralS.w]
 rw [laws_heldLiteralS_lp (by rw [mLiteralS_len]; exact hl) l k 0 rfl (by omega) hk hb hy, Ev.s1 R]
theorem laws_heldScopeS_lp {l : List tScope} (hl : l.length ≤ 1099511627776) : ∀ (ys : List tScope) (k x : Int), l.drop x.toNat = mScopeS ys k → 0 ≤ x → 0 < k → k + (cScopeS ys : Int) ≤ 4611686018427387904 → (∀ y ∈ ys, y.2.length ≤ 1099511627776 ∧ (∀ z : tLiteral, z ∈ y.2 → z.2.2.1.length ≤ 1099511627776 ∧ (∀ w : tTNode, w ∈ z.2.2.1 → w.2.2.2.2.2.1.length ≤ 1099511627776 ∧ w.2.2.2.2.2.2.length ≤ 1099511627776) ∧ z.2.2.2.length ≤ 1099511627776 ∧ (∀ w : tTNode, w ∈ z.2.2.2 → w.2.2.2.2.2.1.length ≤ 1099511627776 ∧ w.2.2.2.2.2.2.length ≤ 1099511627776))) → ∀ (Kx Kr : Nat → Int → Prop),
  (Ev (fun n => laws_heldScopeS.l2 n l k x (Kx n) (Kr n)) ↔ Ev (fun n => Kx n (k + (cScopeS ys : Int))))
 | [], k, x, h, h0, hk, hb, hy, Kx, Kr => by
  have := drop_nil h h0
  refine Ev.suc.trans ?_
  simp (disch := omega) only [laws_heldScopeS.l2, laws_heldScopeS.l2.b, if_neg, decide_eq_true_eq, Ev.s1 Kx]
  refine ev_arg ?_; simp [cScopeS]
 | y :: ys, k, x, h, h0, hk, hb, hy, Kx, Kr => by
  obtain ⟨e1, e2, e3⟩ := drop_cons h h0
  have hy0 := hy y List.mem_cons_self
  simp only [List.length_cons, cScopeS] at hb
  refine Ev.suc.trans ?_
  simp (disch := first | assumption | exact hy0.1 | exact hy0.2 | exact hy0.2.1 | exact hy0.2.2 | exact hy0.2.2.1 | exact hy0.2.2.2 | omega) only [laws_heldScopeS.l2, laws_heldScopeS.l2.b, if_pos, if_neg, decide_eq_true_eq, Bool.not_eq_true', decide_eq_false_iff_not, not_true, if_false, Ev.s1 Kx, grd_dec2, wrap64, wrapU, e2, laws_heldLiteralS_ev, beq_self_eq_true, Bool.true_eq_false, Bool.not_true, Bool.false_eq_true, decide_true, decide_not, Ev.iteI]
  rw [laws_heldScopeS_lp hl ys _ (x + 1) (by first | exact e3 | (rw [e3]; congr 1 <;> omega)) (by omega) (by omega) (by omega) (fun y hy' => hy y (List.mem_cons_of_mem _ hy')), Ev.s1 Kx]
  refine ev_arg ?_; simp only [List.length_cons, cScopeS]; try omega
theorem laws_heldScopeS_ev {l : List tScope} {k : Int} (hl : l.length ≤ 1099511627776) (hk : 0 < k) (hb : k + (cScopeS l : Int) ≤ 4611686018427387904) (hy : ∀ y ∈ l, y.2.length ≤ 1099511627776 ∧ (∀ z : tLiteral, z ∈ y.2 → z.2.2.1.length ≤ 1099511627776 ∧ (∀ w : tTNode, w ∈ z.2.2.1 → w.2.2.2.2.2.1.length ≤ 1099511627776 ∧ w.2.2.2.2.2.2.length ≤ 1099511627776) ∧ z.2.2.2.length ≤ 1099511627776 ∧ (∀ w : tTNode, w ∈ z.2.2.2 → w.2.2.2.2.2.1.length ≤ 1099511627776 ∧ w.2.2.2.2.2.2.length ≤ 1099511627776))) (R : Nat → Int → Prop) :
  Ev (fun n => laws_heldScopeS.c n (mScopeS l k) k (R n)) ↔ Ev (fun n => R n (k + (cScopeS l : Int))) := by
 refine Ev.suc.trans ?_
 simp only [laws_heldScopeS.c, laws_heldScopeS.w]
 rw [laws_heldScopeS_lp (by rw [mScopeS_len]; exact hl) l k 0 rfl (by omega) hk hb hy, Ev.s1 R]
theorem laws_heldSession_ev {a0 : List (List UInt8 × Int)} {a1 : List (Int × List (Int × Bool × List (Int × Int × Int × Int × Int × List (Int) × List (Int)) × List (Int × Int × Int × Int × Int × List (Int) × List (Int))))} {a2 : Int} {k : Int} (hk : 0 < k) (hb : k + (((cDeclS a0) + (cScopeS a1) : Nat) : Int) ≤ 4611686018427387904) (g0 : a0.length ≤ 1099511627776) (g1 : a1.length ≤ 1099511627776) (g2 : (∀ y : tScope, y ∈ a1 → y.2.length ≤ 1099511627776 ∧ (∀ z : tLiteral, z ∈ y.2 → z.2.2.1.length ≤ 1099511627776 ∧ (∀ w : tTNode, w ∈ z.2.2.1 → w.2.2.2.2.2.1.length ≤ 1099511627776 ∧ w.2.2.2.2.2.2.length ≤ 1099511627776) ∧ z.2.2.2.length ≤ 1099511627776 ∧ (∀ w : tTNode, w ∈ z.2.2.2 → w.2.2.2.2.2.1.length ≤ 1099511627776 ∧ w.2.2.2.2.2.2.length ≤ 1099511627776)))) (R : Nat → Int → Prop) :
  Ev (fun n => laws_heldSession.c n (mDeclS a0 k) (mScopeS a1 (k + ((cDeclS a0 : Nat) : Int))) a2 k (R n)) ↔ Ev (fun n => R n (k + (((cDeclS a0) + (cScopeS a1) : Nat) : Int))) := by
 refine Ev.suc.trans ?_
 simp (disch := first | assumption | omega) only [laws_heldSession.c, laws_heldSession.w, laws_heldDeclS_ev, laws_heldScopeS_ev, Ev.s1 R, if_neg, decide_eq_true_eq]
 exact ev_arg (by omega)
end Go.Vsi
end

section
set_option linter.unusedVariables false
set_option linter.unusedSimpArgs false
set_option synthInstance.maxSize 4096
namespace Go.Vsi
theorem cloneI_ev {l : List Int} (hl : l.length ≤ 1099511627776) (R : Nat → List Int → Prop) :
  Ev (fun n => slices_Clone_int64.c n l (R n)) ↔ Ev (fun n => R n l) := by
 refine Ev.suc.trans ?_
 simp (disch := (simp only [List.length_nil]; omega)) only [slices_Clone_int64.c, slices_Clone_int64.w, Ev.andI, Ev.impI, grd_dec, List.nil_append, Ev.s1 R]
 constructor
 ·exact fun h => h.2
 ·refine fun h => ⟨fun e => ?_, h⟩
  rw [List.eq_nil_of_length_eq_zero e] at h; exact h
theorem cloneNode_ev {x : tTNode} (h1 : x.2.2.2.2.2.1.length ≤ 1048576) (h2 : x.2.2.2.2.2.2.length ≤ 1048576) (R : Nat → Int → Int → Int → Int → Int → List Int → List Int → Prop) :
  Ev (fun n => impl_cloneNode.c n x.1 x.2.1 x.2.2.1 x.2.2.2.1 x.2.2.2.2.1 x.2.2.2.2.2.1 x.2.2.2.2.2.2 (R n)) ↔ Ev (fun n => R n x.1 x.2.1 x.2.2.1 x.2.2.2.1 x.2.2.2.2.1 x.2.2.2.2.2.1 x.2.2.2.2.2.2) := by
 refine Ev.suc.trans ?_
 simp (disch := omega) only [impl_cloneNode.c, impl_cloneNode.w, cloneBits_ev, cloneI_ev]
 exact Ev.s7 R _ _ _ _ _ _ _
theorem copyNode_ev {x : tTNode} (h1 : x.2.2.2.2.2.1.length ≤ 1048576) (h2 : x.2.2.2.2.2.2.length ≤ 1048576) (R : Nat → Int → Int → Int → Int → Int → List Int → List Int → Prop) :
  Ev (fun n => spec_l3CopyNode.c n x.1 x.2.1 x.2.2.1 x.2.2.2.1 x.2.2.2.2.1 x.2.2.2.2.2.1 x.2.2.2.2.2.2 (R n)) ↔ Ev (fun n => R n x.1 x.2.1 x.2.2.1 x.2.2.2.1 x.2.2.2.2.1 x.2.2.2.2.2.1 x.2.2.2.2.2.2) := by
 refine Ev.suc.trans ?_
 simp (disch := (simp only [List.length_nil]; omega)) only [spec_l3CopyNode.c, spec_l3CopyNode.w, grd_dec, List.nil_append, and_self]
 exact Ev.s7 R _ _ _ _ _ _ _
def TmS (t : List tTNode) : Prop := t.length + sTNodeS t ≤ 1048576
theorem TmS.mem {t : List tTNode} (h : TmS t) : ∀ x ∈ t, x.2.2.2.2.2.1.length ≤ 1048576 ∧ x.2.2.2.2.2.2.length ≤ 1048576 := fun x hx => by
 have := sTNodeS_mem hx; have h : t.length + sTNodeS t ≤ 1048576 := h; omega
theorem cloneT_lp {t z : List tTNode} (hl : t.length ≤ 1048576) : ∀ (ys : List tTNode) (x : Int) (o : List tTNode), t.drop x.toNat = ys → 0 ≤ x → o.length = t.length → (∀ y ∈ ys, y.2.2.2.2.2.1.length ≤ 1048576 ∧ y.2.2.2.2.2.2.length ≤ 1048576) →
  ∀ Kx : Nat → List tTNode → List tTNode → Prop, (Ev (fun n => impl_cloneTerm.l3 n t t.length z x o (Kx n)) ↔ Ev (fun n => Kx n (o.take x.toNat ++ ys) z))
 | [], x, o, h, h0, ho, hy, Kx => by
  have := drop_nil h h0
  refine Ev.suc.trans ?_
  simp (disch := omega) only [impl_cloneTerm.l3, impl_cloneTerm.l3.b, if_neg, decide_eq_true_eq, Ev.s2 Kx, List.append_nil, List.take_of_length_le]
 | y :: ys, x, o, h, h0, ho, hy, Kx => by
  obtain ⟨e1, e2, e3⟩ := drop_cons h h0
  have hy0 := hy y List.mem_cons_self
  have cn := fun R => cloneNode_ev (x := y) hy0.1 hy0.2 R
  refine Ev.suc.trans ?_
  simp (disch := omega) only [impl_cloneTerm.l3, impl_cloneTerm.l3.b, if_pos, decide_eq_true_eq, grd_dec2, e2, and_self, cn, wrap64]
  rw [cloneT_lp hl ys (x + 1) _ e3 (by omega) (by simpa using ho) (fun z hz => hy z (List.mem_cons_of_mem _ hz)), Ev.s2 Kx, take_set h0 (by omega), List.append_assoc]; rfl
theorem cloneTerm_ev {t : List tTNode} (h : TmS t) (R : Nat → List tTNode → Prop) :
  Ev (fun n => impl_cloneTerm.c n t (R n)) ↔ Ev (fun n => R n t) := by
 have hl : t.length ≤ 1048576 := by have h : t.length + sTNodeS t ≤ 1048576 := h; omega
 have lp := fun Kx => cloneT_lp (z := []) hl t 0 (List.replicate t.length (0, 0, 0, 0, 0, [], [])) rfl (by omega) (by simp) h.mem Kx
 refine Ev.suc.trans ?_
 simp (disch := omega) only [impl_cloneTerm.c, impl_cloneTerm.w, grd_dec2, decide_true, Bool.and_true, Int.toNat_natCast, lp, Int.toNat_zero, List.take_zero, List.nil_append, Ev.s1 R]
theorem copyT_lp {t z : List tTNode} (hl : t.length ≤ 1048576) : ∀ (ys : List tTNode) (x : Int) (o : List tTNode), t.drop x.toNat = ys → 0 ≤ x → o.length = x.toNat → (∀ y ∈ ys, y.2.2.2.2.2.1.length ≤ 1048576 ∧ y.2.2.2.2.2.2.length ≤ 1048576) →
  ∀ Kx : Nat → List tTNode → List tTNode → Prop, (Ev (fun n => spec_l14CopyTerm.l3 n z t x o (Kx n)) ↔ Ev (fun n => Kx n z (o ++ ys)))
 | [], x, o, h, h0, ho, hy, Kx => by
  have := drop_nil h h0
  refine Ev.suc.trans ?_
  simp (disch := omega) only [spec_l14CopyTerm.l3, spec_l14CopyTerm.l3.b, if_neg, decide_eq_true_eq, Ev.s2 Kx, List.append_nil]
 | y :: ys, x, o, h, h0, ho, hy, Kx => by
  obtain ⟨e1, e2, e3⟩ := drop_cons h h0
  have hy0 := hy y List.mem_cons_self
  have cn := fun R => copyNode_ev (x := y) hy0.1 hy0.2 R
  refine Ev.suc.trans ?_
  simp (disch := first | omega | (simp only [List.length_cons, List.length_nil]; omega)) only [spec_l14CopyTerm.l3, spec_l14CopyTerm.l3.b, if_pos, decide_eq_true_eq, grd_dec2, grd_dec, e2, and_self, cn, wrap64]
  rw [copyT_lp hl ys (x + 1) _ e3 (by omega) (by simp; omega) (fun z hz => hy z (List.mem_cons_of_mem _ hz)), Ev.s2 Kx, List.append_assoc]; rfl
theorem copyTerm_ev {t : List tTNode} (h : TmS t) (R : Nat → List tTNode → Prop) :
  Ev (fun n => spec_l14CopyTerm.c n t (R n)) ↔ Ev (fun n => R n t) := by
 have hl : t.length ≤ 1048576 := by have h : t.length + sTNodeS t ≤ 1048576 := h; omega
 have lp := fun Kx => copyT_lp (z := []) hl t 0 [] rfl (by omega) rfl h.mem Kx
 refine Ev.suc.trans ?_
 simp (disch := omega) only [spec_l14CopyTerm.c, spec_l14CopyTerm.w, lp, List.nil_append, Ev.s1 R]
def LtS (l : List tLiteral) : Prop := l.length + sLiteralS l ≤ 1048576
theorem LtS.mem {l : List tLiteral} (h : LtS l) : ∀ y ∈ l, TmS y.2.2.1 ∧ TmS y.2.2.2 := fun y hy => by
 have := sLiteralS_mem hy; have h : l.length + sLiteralS l ≤ 1048576 := h
 constructor <;> (unfold TmS; omega)
theorem cloneL_lp {l : List tLiteral} (hl : l.length ≤ 1048576) : ∀ (ys : List tLiteral) (x : Int) (o : List tLiteral), l.drop x.toNat = ys → 0 ≤ x → o.length = l.length → (∀ y ∈ ys, TmS y.2.2.1 ∧ TmS y.2.2.2) →
  ∀ Kx : Nat → List tLiteral → Prop, (Ev (fun n => impl_cloneLiterals.l3 n l l.length x o (Kx n)) ↔ Ev (fun n => Kx n (o.take x.toNat ++ ys)))
 | [], x, o, h, h0, ho, hy, Kx => by
  have := drop_nil h h0
  refine Ev.suc.trans ?_
  simp (disch := omega) only [impl_cloneLiterals.l3, impl_cloneLiterals.l3.b, if_neg, decide_eq_true_eq, Ev.s1 Kx, List.append_nil, List.take_of_length_le]
 | y :: ys, x, o, h, h0, ho, hy, Kx => by
  obtain ⟨e1, e2, e3⟩ := drop_cons h h0
  have hy0 := hy y List.mem_cons_self
  have c1 := fun R => cloneTerm_ev hy0.1 R
  have c2 := fun R => cloneTerm_ev hy0.2 R
  refine Ev.suc.trans ?_
  simp (disch := omega) only [impl_cloneLiterals.l3, impl_cloneLiterals.l3.b, impl_cloneLiterals.j3, if_pos, decide_eq_true_eq, grd_dec2, e2, and_self, c1, c2, wrap64]
  rw [cloneL_lp hl ys (x + 1) _ e3 (by omega) (by simpa using ho) (fun z hz => hy z (List.mem_cons_of_mem _ hz)), Ev.s1 Kx, take_set h0 (by omega), List.append_assoc]; rfl
theorem cloneLits_ev {l : List tLiteral} (h : LtS l) (R : Nat → List tLiteral → Prop) :
  Ev (fun n => impl_cloneLiterals.c n l (R n)) ↔ Ev (fun n => R n l) := by
 have hl : l.length ≤ 1048576 := by have h : l.length + sLiteralS l ≤ 1048576 := h; omega
 have lp := fun Kx => cloneL_lp hl l 0 (List.replicate l.length (0, false, [], [])) rfl (by omega) (by simp) h.mem Kx
 refine Ev.suc.trans ?_
 simp (disch := omega) only [impl_cloneLiterals.c, impl_cloneLiterals.w, grd_dec2, decide_true, Bool.and_true, Int.toNat_natCast, lp, Int.toNat_zero, List.take_zero, List.nil_append, Ev.s1 R]
theorem copyL_lp {l : List tLiteral} (hl : l.length ≤ 1048576) : ∀ (ys : List tLiteral) (x : Int) (o : List tLiteral), l.drop x.toNat = ys → 0 ≤ x → o.length = x.toNat → (∀ y ∈ ys, TmS y.2.2.1 ∧ TmS y.2.2.2) →
  ∀ Kx : Nat → List tLiteral → Prop, (Ev (fun n => spec_l16Copy.l3 n l x o (Kx n)) ↔ Ev (fun n => Kx n (o ++ ys)))
 | [], x, o, h, h0, ho, hy, Kx => by
  have := drop_nil h h0
  refine Ev.suc.trans ?_
  simp (disch := omega) only [spec_l16Copy.l3, spec_l16Copy.l3.b, if_neg, decide_eq_true_eq, Ev.s1 Kx, List.append_nil]
 | y :: ys, x, o, h, h0, ho, hy, Kx => by
  obtain ⟨e1, e2, e3⟩ := drop_cons h h0
  have hy0 := hy y List.mem_cons_self
  have c1 := fun R => copyTerm_ev hy0.1 R
  have c2 := fun R => copyTerm_ev hy0.2 R
  refine Ev.suc.trans ?_
  simp (disch := first | omega | (simp only [List.length_cons, List.length_nil]; omega)) only [spec_l16Copy.l3, spec_l16Copy.l3.b, if_pos, decide_eq_true_eq, grd_dec2, grd_dec, e2, and_self, c1, c2, wrap64]
  rw [copyL_lp hl ys (x + 1) _ e3 (by omega) (by simp; omega) (fun z hz => hy z (List.mem_cons_of_mem _ hz)), Ev.s1 Kx, List.append_assoc]; rfl
theorem copyLits_ev {l : List tLiteral} (h : LtS l) (R : Nat → List tLiteral → Prop) :
  Ev (fun n => spec_l16Copy.c n l (R n)) ↔ Ev (fun n => R n l) := by
 have hl : l.length ≤ 1048576 := by have h : l.length + sLiteralS l ≤ 1048576 := h; omega
 have lp := fun Kx => copyL_lp hl l 0 [] rfl (by omega) rfl h.mem Kx
 refine Ev.suc.trans ?_
 simp (disch := omega) only [spec_l16Copy.c, spec_l16Copy.w, lp, List.nil_append, Ev.s1 R]
theorem sLits_app : ∀ {l m : List tLiteral}, sLiteralS (l ++ m) = sLiteralS l + sLiteralS m
 | [], m => by simp [sLiteralS]
 | y :: l, m => by rw [List.cons_append, sLiteralS, sLiteralS, sLits_app (l := l)]; omega
theorem allLits_s : ∀ {s : List tScope}, (allLits s).length + sLiteralS (allLits s) ≤ sScopeS s
 | [] => Nat.le_refl _
 | x :: r => by
  have := allLits_s (s := r)
  rw [allLits, List.length_append, sLits_app, sScopeS]
  omega
end Go.Vsi
end

section
set_option linter.unusedVariables false
set_option linter.unusedSimpArgs false
set_option synthInstance.maxSize 4096
namespace Go.Vsi
theorem cloneDecls_ev {l : List tDecl} (hl : l.length ≤ 1048576) (R : Nat → List tDecl → Prop) :
  Ev (fun n => slices_Clone_Decl.c n l (R n)) ↔ Ev (fun n => R n l) := by
 refine Ev.suc.trans ?_
 simp (disch := (simp only [List.length_nil]; omega)) only [slices_Clone_Decl.c, slices_Clone_Decl.w, slices_Clone_Decl.j0, if_true, Bool.false_eq_true, if_false, Ev.andI, Ev.impI, grd_dec, List.nil_append, Ev.s1 R]
 constructor
 ·exact fun h => h.2
 ·refine fun h => ⟨fun e => ?_, h⟩
  rw [List.eq_nil_of_length_eq_zero e] at h; exact h
theorem cloneSs_lp {s : List tScope} {x52 x54 : List tDecl} {x55 : List tScope} {x56 x57 : Int} (hl : s.length ≤ 1048576) : ∀ (ys : List tScope) (x : Int) (o : List tScope), s.drop x.toNat = ys → 0 ≤ x → o.length = s.length → (∀ y ∈ ys, LtS y.2) →
  ∀ Kx : Nat → List tDecl → List tScope → List tDecl → List tScope → Int → Int → Prop, (Ev (fun n => impl_cloneSession.l3 n s s.length x52 x54 x55 x56 x57 x o (Kx n)) ↔ Ev (fun n => Kx n x52 (o.take x.toNat ++ ys) x54 x55 x56 x57))
 | [], x, o, h, h0, ho, hy, Kx => by
  have := drop_nil h h0
  refine Ev.suc.trans ?_
  simp (disch := omega) only [impl_cloneSession.l3, impl_cloneSession.l3.b, if_neg, decide_eq_true_eq, List.append_nil, List.take_of_length_le]
  exact Ev.s6 Kx _ _ _ _ _ _
 | y :: ys, x, o, h, h0, ho, hy, Kx => by
  obtain ⟨e1, e2, e3⟩ := drop_cons h h0
  have c1 := fun R => cloneLits_ev (hy y List.mem_cons_self) R
  refine Ev.suc.trans ?_
  simp (disch := omega) only [impl_cloneSession.l3, impl_cloneSession.l3.b, if_pos, decide_eq_true_eq, grd_dec2, e2, and_self, c1, wrap64]
  refine (cloneSs_lp (x52 := x52) (x54 := x54) (x55 := x55) (x56 := x56) (x57 := x57) hl ys (x + 1) _ e3 (by omega) (by simpa using ho) (fun z hz => hy z (List.mem_cons_of_mem _ hz)) (fun n => Kx (n + 1))).trans ((Ev.s6 Kx _ _ _ _ _ _).trans ?_)
  rw [take_set h0 (by omega), List.append_assoc]; rfl
theorem cloneSession_ev {d : List tDecl} {s : List tScope} {next : Int} (hd : d.length ≤ 1048576) (hs : s.length + sScopeS s ≤ 1048576) (R : Nat → List tDecl → List tScope → Int → Prop) :
  Ev (fun n => impl_cloneSession.c n d s next (R n)) ↔ Ev (fun n => R n d s next) := by
 have q : ∀ (o : List tScope) (x10 x12 : List tDecl) (x11 : List tScope) (x14 x15 : Int) (R : Nat → List tDecl → List tScope → Int → Prop), o.length = s.length → (Ev (fun n => impl_cloneSession.q2 n d o x10 x11 x12 s x14 x15 next (R n)) ↔ Ev (fun n => R n d s next)) := fun o x10 x12 x11 x14 x15 R ho => by
  refine Ev.suc.trans ?_
  simp only [impl_cloneSession.q2, impl_cloneSession.q2.b]
  refine (cloneSs_lp (by omega) s 0 o rfl (by omega) ho (fun y hy => by have := sScopeS_mem hy; unfold LtS; omega) (fun n a b c d e f => R (n + 1) a b f)).trans ?_
  rw [Int.toNat_zero, List.take_zero, List.nil_append]
  exact Ev.s3 R _ _ _
 have cd := fun R => cloneDecls_ev hd R
 refine Ev.suc.trans ?_
 simp (disch := omega) only [impl_cloneSession.c, impl_cloneSession.w, grd_dec2, decide_true, Bool.and_true, Int.toNat_natCast, and_self, cd]
 refine (q _ _ _ _ _ _ _ (by simp)).trans ?_
 exact Ev.s3 R _ _ _
theorem copySs_lp {s : List tScope} {x109 x110 x113 : List tDecl} {x111 : List tScope} {x115 x116 x117 : Int} (hl : s.length ≤ 1048576) : ∀ (ys : List tScope) (x : Int) (o : List tScope), s.drop x.toNat = ys → 0 ≤ x → o.length = x.toNat → (∀ y ∈ ys, LtS y.2) →
  ∀ Kx : Nat → List tDecl → List tDecl → List tScope → List tScope → Int → Int → Prop, (Ev (fun n => spec_l21Copy.l3 n x109 x110 x111 x113 s x115 x116 x117 x o (Kx n)) ↔ Ev (fun n => Kx n x109 x110 x111 (o ++ ys) x116 x117))
 | [], x, o, h, h0, ho, hy, Kx => by
  have := drop_nil h h0
  refine Ev.suc.trans ?_
  simp (disch := omega) only [spec_l21Copy.l3, spec_l21Copy.l3.b, if_neg, decide_eq_true_eq, List.append_nil]
  exact Ev.s6 Kx _ _ _ _ _ _
 | y :: ys, x, o, h, h0, ho, hy, Kx => by
  obtain ⟨e1, e2, e3⟩ := drop_cons h h0
  have c1 := fun R => copyLits_ev (hy y List.mem_cons_self) R
  refine Ev.suc.trans ?_
  simp (disch := first | omega | (simp only [List.length_cons, List.length_nil]; omega)) only [spec_l21Copy.l3, spec_l21Copy.l3.b, if_pos, decide_eq_true_eq, grd_dec2, grd_dec, e2, and_self, c1, wrap64]
  refine (copySs_lp (x109 := x109) (x110 := x110) (x111 := x111) (x113 := x113) (x115 := x115) (x116 := x116) (x117 := x117) hl ys (x + 1) _ e3 (by omega) (by simp; omega) (fun z hz => hy z (List.mem_cons_of_mem _ hz)) (fun n => Kx (n + 1))).trans ((Ev.s6 Kx _ _ _ _ _ _).trans ?_)
  rw [List.append_assoc]; rfl
theorem copySession_ev {d : List tDecl} {s : List tScope} {next : Int} (hd : d.length ≤ 1048576) (hs : s.length + sScopeS s ≤ 1048576) (R : Nat → List tDecl → List tScope → Int → Prop) :
  Ev (fun n => spec_l21Copy.c n d s next (R n)) ↔ Ev (fun n => R n d s next) := by
 have lp := fun (x110 x113 : List tDecl) (x111 : List tScope) (x115 x116 x117 : Int) Kx => copySs_lp (x109 := d) (x110 := x110) (x111 := x111) (x113 := x113) (x115 := x115) (x116 := x116) (x117 := x117) (by omega) s 0 [] rfl (by omega) rfl (fun y hy => by have := sScopeS_mem hy; unfold LtS; omega) Kx
 refine Ev.suc.trans ?_
 simp (disch := (simp only [List.length_nil]; omega)) only [spec_l21Copy.c, spec_l21Copy.w, grd_dec, List.nil_append, and_self]
 refine (lp _ _ _ _ _ _ (fun n a b c d e f => R (n + 1) a d f)).trans ?_
 exact Ev.s3 R _ _ _
theorem sScopes_app : ∀ {l m : List tScope}, sScopeS (l ++ m) = sScopeS l + sScopeS m
 | [], m => by simp [sScopeS]
 | y :: l, m => by rw [List.cons_append, sScopeS, sScopeS, sScopes_app (l := l)]; omega
theorem sDecls_app : ∀ {l m : List tDecl}, sDeclS (l ++ m) = sDeclS l + sDeclS m
 | [], m => by simp [sDeclS]
 | y :: l, m => by rw [List.cons_append, sDeclS, sDeclS, sDecls_app (l := l)]; omega
end Go.Vsi
end

section
set_option linter.unusedVariables false
set_option linter.unusedSimpArgs false
set_option synthInstance.maxSize 4096
namespace Go.Vsi
theorem scopesGo_in {m : Nat} : ∀ {ys : List tScope} {b : Int}, 0 ≤ b → scopesGo m ys b = true → ∀ y ∈ ys, 0 ≤ y.1 ∧ y.1 ≤ (m : Int)
 | [], b, h0, h, y, hy => by cases hy
 | z :: ys, b, h0, h, y, hy => by
  rw [scopesGo, Bool.and_eq_true, decide_eq_true_eq] at h
  rcases List.mem_cons.1 hy with rfl | hy
  ·omega
  ·exact scopesGo_in (by omega) h.2 y hy
theorem session_scopes {d : List tDecl} {s : List tScope} {next : Int} (h : sessionOk d s next = true) : 1 ≤ s.length ∧ s.length ≤ 20 ∧ ∀ y ∈ s, 0 ≤ y.1 ∧ y.1 ≤ (d.length : Int) := by
 simp only [sessionOk, Bool.and_eq_true, decide_eq_true_eq] at h
 exact ⟨h.1.1.1.1.1.1.1.2.1, h.1.1.1.1.1.1.1.2.2, scopesGo_in (Int.le_refl _) h.1.1.1.1.2⟩
def popOf (d : List tDecl) (s : List tScope) (next : Int) : (List tDecl × List tScope × Int) × Int :=
 if sessionOk d s next = true then (if s.length = 1 then ((d, s, next), 8) else ((d.take (rd s (s.length - 1)).1.toNat, s.take (s.length - 1), next), 0)) else (([], [], 0), 1)
theorem popOf_ev {d : List tDecl} {s : List tScope} {next : Int} (hd : d.length ≤ 1048576) (hs : s.length + sScopeS s ≤ 1048576) (R : Nat → List tDecl → List tScope → Int → Int → Prop) :
  Ev (fun n => impl_Pop.c n d s next (R n)) ↔ Ev (fun n => R n (popOf d s next).1.1 (popOf d s next).1.2.1 (popOf d s next).1.2.2 (popOf d s next).2) := by
 have ha := allLits_s (s := s)
 have ok := fun R => sessionOk_ev (d := d) (s := s) (next := next) (by omega) (by omega) (by omega) R
 have cl := fun R => cloneSession_ev (d := d) (s := s) (next := next) hd hs R
 refine Ev.suc.trans ?_
 simp only [impl_Pop.c, impl_Pop.w, ok, Ev.iteI, Bool.not_eq_true', popOf]
 by_cases h : sessionOk d s next = true
 ·obtain ⟨h1, h2, h3⟩ := session_scopes h
  have hl := h3 (rd s (s.length - 1)) (by rw [rd, List.getD_eq_getElem?_getD, List.getElem?_eq_getElem (by omega)]; exact List.getElem_mem _)
  have ew : IntKind.wrap .i64 ((s.length : Int) - 1) = ((s.length - 1 : Nat) : Int) := by rw [wrap64 (by omega) (by omega)]; omega
  rw [if_neg (by rw [h]; decide), if_pos h]
  simp (disch := omega) only [cl, ew, Int.toNat_natCast, grd_dec2, grd_dec3, Ev.iteI, decide_eq_true_eq]
  by_cases h4 : s.length = 1
  ·rw [if_pos (by omega), if_pos h4]; exact Ev.s4 R _ _ _ _
  ·rw [if_neg (by omega), if_neg h4]; exact Ev.s4 R _ _ _ _
 ·rw [if_pos (by simpa using h), if_neg h]; exact Ev.s4 R _ _ _ _
theorem popOfS_ev {d : List tDecl} {s : List tScope} {next : Int} (hd : d.length ≤ 1048576) (hs : s.length + sScopeS s ≤ 1048576) (hg : ∀ y ∈ s, LitG y.2) (R : Nat → List tDecl → List tScope → Int → Int → Prop) :
  Ev (fun n => spec_Pop.c n d s next (R n)) ↔ Ev (fun n => R n (popOf d s next).1.1 (popOf d s next).1.2.1 (popOf d s next).1.2.2 (popOf d s next).2) := by
 have ha := allLits_s (s := s)
 have ok := fun R => sessionOkS_ev (d := d) (s := s) (next := next) (by omega) (by omega) (by omega) hg R
 have cl := fun R => copySession_ev (d := d) (s := s) (next := next) hd hs R
 refine Ev.suc.trans ?_
 simp only [spec_Pop.c, spec_Pop.w, ok, Ev.iteI, Bool.not_eq_true', popOf]
 by_cases h : sessionOk d s next = true
 ·obtain ⟨h1, h2, h3⟩ := session_scopes h
  have hl := h3 (rd s (s.length - 1)) (by rw [rd, List.getD_eq_getElem?_getD, List.getElem?_eq_getElem (by omega)]; exact List.getElem_mem _)
  have ew : IntKind.wrap .i64 ((s.length : Int) - 1) = ((s.length - 1 : Nat) : Int) := by rw [wrap64 (by omega) (by omega)]; omega
  rw [if_neg (by rw [h]; decide), if_pos h]
  simp (disch := omega) only [cl, ew, Int.toNat_natCast, grd_dec2, grd_dec3, Ev.iteI, decide_eq_true_eq]
  by_cases h4 : s.length = 1
  ·rw [if_pos (by omega), if_pos h4]; exact Ev.s4 R _ _ _ _
  ·rw [if_neg (by omega), if_neg h4]; exact Ev.s4 R _ _ _ _
 ·rw [if_pos (by simpa using h), if_neg h]; exact Ev.s4 R _ _ _ _
theorem popOf_s {d : List tDecl} {s : List tScope} {next : Int} : (popOf d s next).1.1.length + sDeclS (popOf d s next).1.1 ≤ d.length + sDeclS d ∧ (popOf d s next).1.2.1.length + sScopeS (popOf d s next).1.2.1 ≤ s.length + sScopeS s := by
 have hd : ∀ k, (d.take k).length + sDeclS (d.take k) ≤ d.length + sDeclS d := fun k => by
  have := sDecls_app (l := d.take k) (m := d.drop k)
  rw [List.take_append_drop] at this
  have := List.length_take_le k d
  have h2 : (d.take k).length ≤ d.length := by rw [List.length_take]; omega
  omega
 have hs : ∀ k, (s.take k).length + sScopeS (s.take k) ≤ s.length + sScopeS s := fun k => by
  have := sScopes_app (l := s.take k) (m := s.drop k)
  rw [List.take_append_drop] at this
  have h2 : (s.take k).length ≤ s.length := by rw [List.length_take]; omega
  omega
 unfold popOf
 split
 ·split
  ·exact ⟨Nat.le_refl _, Nat.le_refl _⟩
  ·exact ⟨hd _, hs _⟩
 ·exact ⟨Nat.zero_le _, Nat.zero_le _⟩
end Go.Vsi
end

section
set_option linter.unusedVariables false
set_option linter.unusedSimpArgs false
set_option synthInstance.maxSize 4096
namespace Go.Vsi
theorem wd_of {l : List Int} (h : Gd (.sl 0 (.int .u64)) l) : Wd l := fun x hx => ⟨(h.2 x hx).1, (h.2 x hx).2⟩
theorem term_wd {t : List tTNode} (h : Gd (.sl 0 yTNode) t) (hz : t.length + sTNodeS t ≤ 1099511627776) : ∀ x : tTNode, x ∈ t → Wd x.2.2.2.2.2.1 ∧ x.2.2.2.2.2.2.length ≤ 1099511627776 :=
 fun x hx => ⟨wd_of (h.2 x hx).2.2.2.2.2.1, by have := sTNodeS_mem hx; omega⟩
end Go.Vsi
end

section
set_option linter.unusedVariables false
set_option linter.unusedSimpArgs false
set_option synthInstance.maxSize 4096
namespace Go.Vsi
theorem lits_g {l : List tLiteral} (h : Gd (.sl 0 yLiteral) l) (hz : l.length + sLiteralS l ≤ 1099511627776) : LitG l := fun y hy =>
 have := sLiteralS_mem hy
 ⟨term_wd (h.2 y hy).2.2.1 (by omega), term_wd (h.2 y hy).2.2.2 (by omega)⟩
theorem pop_law {d : List tDecl} {s : List tScope} {next : Int} (hg : Gd (.prod (.sl 0 yDecl) (.prod (.sl 0 yScope) (.int .i64))) (d, s, next)) (K : Bool → Prop) :
  Ev (fun n => laws_FnExactPop.c n d s next K) ↔ K true := by
 have hd : Gd (.sl 0 yDecl) d := hg.1
 have hs : Gd (.sl 0 yScope) s := hg.2.1
 refine Ev.suc.trans ?_
 simp only [laws_FnExactPop.c, laws_FnExactPop.w]
 rw [laws_szSession_ev (by omega) (by omega) hd.1 (szDeclS_gd hd) hs.1 (szScopeS_gd hs)]
 simp only [Ev.iteI, decide_eq_true_eq, Ev.k]
 by_cases z1 : (((d.length + sDeclS d) + (s.length + sScopeS s) : Nat) : Int) ≤ 1048576
 ·rw [szr_ok z1, if_neg (by omega)]
  have hp := popOf_s (d := d) (s := s) (next := next)
  have t1 := fun R => laws_toSession_ev (a0 := d) (a1 := s) (a2 := next) (by omega) R
  have s1 := fun R => popOfS_ev (d := d) (s := s) (next := next) (by omega) (by omega) (fun y hy => lits_g (hs.2 y hy).2 (by have := sScopeS_mem hy; omega)) R
  have s2 := fun R => popOf_ev (d := d) (s := s) (next := next) (by omega) (by omega) R
  have e0 := fun R => laws_eqSession_ev (a0 := (popOf d s next).1.1) (a1 := (popOf d s next).1.2.1) (a2 := (popOf d s next).1.2.2) (b0 := (popOf d s next).1.1) (b1 := (popOf d s next).1.2.1) (b2 := (popOf d s next).1.2.2) (by omega) (by omega) (eqScopeS_of (by omega)) R
  have e1 := fun R => laws_eqSession_ev (a0 := d) (a1 := s) (a2 := next) (b0 := d) (b1 := s) (b2 := next) (by omega) (by omega) (eqScopeS_of (by omega)) R
  have c1 := cDeclS_le (l := d)
  have c2 := cScopeS_le (l := s)
  have c3 := cDeclS_le (l := (popOf d s next).1.1)
  have c4 := cScopeS_le (l := (popOf d s next).1.2.1)
  have pc := markScopeS_of (l := s) (by omega)
  have pd := markScopeS_of (l := (popOf d s next).1.2.1) (by omega)
  have m1 := fun R => laws_markSession_ev (a0 := d) (a1 := s) (a2 := next) (k := 1) (by omega) (by omega) (by omega) (by omega) pc R
  have m2 := fun R => laws_markSession_ev (a0 := (popOf d s next).1.1) (a1 := (popOf d s next).1.2.1) (a2 := (popOf d s next).1.2.2) (k := 1) (by omega) (by omega) (by omega) (by omega) pd R
  have k1 := fun R => laws_heldSession_ev (a0 := (popOf d s next).1.1) (a1 := (popOf d s next).1.2.1) (a2 := (popOf d s next).1.2.2) (k := 1) (by omega) (by omega) (by omega) (by omega) pd R
  simp only [laws_FnExactPop.j3, laws_FnExactPop.j2, laws_FnExactPop.j1, laws_FnExactPop.j0, t1, s1, s2, e0, e1, m1, m2, k1, Ev.andI, Ev.iteI, decide_eq_true_eq, decide_eq_false_iff_not, beq_self_eq_true, and_self, decide_true, Bool.not_true, Bool.false_eq_true, if_false, if_true, Ev.k]
  rw [if_pos (by omega), if_neg (by omega), if_neg (by omega)]
 ·rw [szr_no z1, if_pos (by omega)]
end Go.Vsi
end
