/- What the told functions answer. No statement is proved here. -/
import Derived.Test.YtppcdaliielpgaaA1

section
set_option linter.unusedVariables false
namespace Go.Vsi
def Ev (P : Nat → Prop) : Prop := ∃ N, ∀ n, N ≤ n → P n
theorem Ev.succ {P : Nat → Prop} : Ev (fun n => P (n + 1)) → Ev P
 | ⟨N, h⟩ => ⟨N + 1, fun n hn => by obtain ⟨m, rfl⟩ : ∃ m, n = m + 1 := ⟨n - 1, by omega⟩; exact h m (by omega)⟩
theorem Ev.shift {P : Nat → Prop} : Ev P → Ev (fun n => P (n + 1))
 | ⟨N, h⟩ => ⟨N, fun n hn => h (n + 1) (by omega)⟩
theorem Ev.and {P Q : Nat → Prop} : Ev P → Ev Q → Ev (fun n => P n ∧ Q n)
 | ⟨N, h⟩, ⟨M, g⟩ => ⟨max N M, fun n hn => ⟨h n (by omega), g n (by omega)⟩⟩
theorem Ev.const {p : Prop} (h : p) : Ev (fun _ => p) := ⟨0, fun _ _ => h⟩
theorem Ev.grd {b : Bool} {P : Nat → Prop} (hb : b = true) (h : Ev P) : Ev (fun n => grd b (P n)) := by
 subst hb; exact h
theorem Ev.ite {c : Prop} [Decidable c] {P Q : Nat → Prop} (h1 : c → Ev P) (h2 : ¬ c → Ev Q) : Ev (fun n => if c then P n else Q n) := by
 by_cases h : c
 ·simp only [if_pos h]; exact h1 h
 ·simp only [if_neg h]; exact h2 h
theorem Ev.pos {c : Prop} [Decidable c] {P Q : Nat → Prop} (h : c) (h1 : Ev P) : Ev (fun n => if c then P n else Q n) := by
 simp only [if_pos h]; exact h1
theorem Ev.neg {c : Prop} [Decidable c] {P Q : Nat → Prop} (h : ¬ c) (h1 : Ev Q) : Ev (fun n => if c then P n else Q n) := by
 simp only [if_neg h]; exact h1
theorem Ev.some {P : Nat → Prop} : Ev P → ∃ n, P n
 | ⟨N, h⟩ => ⟨N, h N (Nat.le_refl _)⟩
theorem wrap64 {x : Int} (h1 : -9223372036854775808 ≤ x) (h2 : x < 9223372036854775808) : IntKind.wrap .i64 x = x := by
 simp only [IntKind.wrap, IntKind.bits, IntKind.signed, Bool.true_and]
 split <;> simp_all <;> omega
theorem wrapU {x : Int} (h1 : 0 ≤ x) (h2 : x < 18446744073709551616) : IntKind.wrap .u64 x = x := by
 simp only [IntKind.wrap, IntKind.bits, IntKind.signed, Bool.false_and]
 simp; omega
theorem wrapUm (x : Int) : IntKind.wrap .u64 x = x % 18446744073709551616 := by
 simp only [IntKind.wrap, IntKind.bits, IntKind.signed, Bool.false_and]
 simp
theorem wrapUr (x : Int) : 0 ≤ IntKind.wrap .u64 x ∧ IntKind.wrap .u64 x < 18446744073709551616 := by
 rw [wrapUm]; omega
theorem wrap64r (x : Int) : -9223372036854775808 ≤ IntKind.wrap .i64 x ∧ IntKind.wrap .i64 x < 9223372036854775808 := by
 simp only [IntKind.wrap, IntKind.bits, IntKind.signed, Bool.true_and]
 split <;> simp_all <;> omega
theorem wrap8 {x : Int} (h1 : 0 ≤ x) (h2 : x < 256) : IntKind.wrap .u8 x = x := by
 simp only [IntKind.wrap, IntKind.bits, IntKind.signed, Bool.false_and]
 simp; omega
theorem tdivP {x m : Int} (h : 0 ≤ x) : Int.tdiv x m = x / m := Int.tdiv_eq_ediv_of_nonneg h
theorem tmodP {x m : Int} (h : 0 ≤ x) : Int.tmod x m = x % m := Int.tmod_eq_emod_of_nonneg h
theorem fdivP {x m : Int} (h : 0 ≤ m) : Int.fdiv x m = x / m := Int.fdiv_eq_ediv_of_nonneg x h
def W (ws : List Nat) : List Int := ws.map Int.ofNat
theorem W_len (ws : List Nat) : (W ws).length = ws.length := by simp [W]
theorem W_rd (ws : List Nat) (i : Nat) : rd (W ws) i = ((ws.getD i 0 : Nat) : Int) := by
 simp only [rd, W, List.getD_eq_getElem?_getD, List.getElem?_map]
 cases ws[i]? <;> rfl
def Below (m : Nat) (ws : List Nat) : Prop := ∀ x ∈ ws, x < m
theorem W_of {m : Nat} : ∀ {l : List Int}, (∀ x ∈ l, 0 ≤ x ∧ x < (m : Int)) → ∃ ws, l = W ws ∧ Below m ws
 | [], _ => ⟨[], rfl, by simp [Below]⟩
 | x :: l, h => by
  obtain ⟨ws, rfl, hb⟩ := W_of (l := l) fun y hy => h y (by simp [hy])
  have hx := h x (by simp)
  refine ⟨x.toNat :: ws, ?_, ?_⟩
  ·simp only [W, List.map_cons, List.cons.injEq, and_true]
   show x = (x.toNat : Int); omega
  ·intro y hy
   simp only [List.mem_cons] at hy
   rcases hy with rfl | hy
   ·omega
   ·exact hb y hy
theorem Below.getD {m : Nat} {ws : List Nat} (h : Below m ws) (hm : 0 < m) (i : Nat) : ws.getD i 0 < m := by
 rw [List.getD_eq_getElem?_getD]
 cases hw : ws[i]? with
 | none => exact hm
 | some y => exact h y (List.mem_of_getElem? hw)
theorem Below.set {m : Nat} {ws : List Nat} (h : Below m ws) {i x : Nat} (hx : x < m) : Below m (ws.set i x) := by
 intro y hy
 rcases List.mem_or_eq_of_mem_set hy with h' | rfl
 ·exact h y h'
 ·exact hx
theorem Below.rep {m n : Nat} (hm : 0 < m) : Below m (List.replicate n 0) := by
 intro y hy
 rw [List.eq_of_mem_replicate hy]; exact hm
theorem and_W {a b : Nat} (ha : a < 18446744073709551616) (hb : b < 18446744073709551616) : ibits .and .u64 (a : Int) (b : Int) = ((a &&& b : Nat) : Int) := by
 have hab : a &&& b < 2 ^ 64 := Nat.and_lt_two_pow a hb
 show IntKind.wrap .u64 (((BitVec.ofInt 64 (a : Int) &&& BitVec.ofInt 64 (b : Int) : BitVec 64).toNat : Nat) : Int) = _
 rw [BitVec.toNat_and, BitVec.ofInt_natCast, BitVec.ofInt_natCast, BitVec.toNat_ofNat, BitVec.toNat_ofNat]
 rw [Nat.mod_eq_of_lt ha, Nat.mod_eq_of_lt hb]
 exact wrapU (by omega) (by omega)
theorem ibitsU (op : BinOp) (x y : Int) : 0 ≤ ibits op .u64 x y ∧ ibits op .u64 x y < 18446744073709551616 := by
 cases op <;> first | exact wrapUr _ | (constructor <;> decide)
theorem shr_W (a k : Nat) (hk : k ≤ 64) : Int.fdiv (a : Int) (2 ^ (Nat.min k 64)) = ((a >>> k : Nat) : Int) := by
 rw [fdivP (Int.le_of_lt (Int.pow_pos (by decide))), show Nat.min k 64 = k from Nat.min_eq_left hk, Nat.shiftRight_eq_div_pow]
 simp
def bit (ws : List Nat) (i : Nat) : Bool := (ws.getD (i / 64) 0).testBit (i % 64)
theorem bit_out {ws : List Nat} {i : Nat} (h : 64 * ws.length ≤ i) : bit ws i = false := by
 have : ws.length ≤ i / 64 := by omega
 simp [bit, List.getD_eq_getElem?_getD, List.getElem?_eq_none this]
end Go.Vsi
end

section
set_option linter.unusedVariables false
namespace Go.Vsi
theorem Ev.suc {P : Nat → Prop} : Ev P ↔ Ev (fun n => P (n + 1)) := ⟨Ev.shift, Ev.succ⟩
theorem Ev.s0 (R : Nat → Prop) : Ev (fun n => R (n + 1)) ↔ Ev (fun n => R n) := ⟨Ev.succ, Ev.shift⟩
theorem Ev.s1 {α : Type} (R : Nat → α → Prop) (a : α) : Ev (fun n => R (n + 1) a) ↔ Ev (fun n => R n a) := Ev.s0 (fun n => R n a)
theorem Ev.s2 {α β : Type} (R : Nat → α → β → Prop) (a : α) (b : β) : Ev (fun n => R (n + 1) a b) ↔ Ev (fun n => R n a b) := Ev.s0 (fun n => R n a b)
theorem Ev.s3 {α β γ : Type} (R : Nat → α → β → γ → Prop) (a : α) (b : β) (c : γ) : Ev (fun n => R (n + 1) a b c) ↔ Ev (fun n => R n a b c) := Ev.s0 (fun n => R n a b c)
theorem Ev.s4 {α β γ δ : Type} (R : Nat → α → β → γ → δ → Prop) (a : α) (b : β) (c : γ) (d : δ) : Ev (fun n => R (n + 1) a b c d) ↔ Ev (fun n => R n a b c d) := Ev.s0 (fun n => R n a b c d)
theorem Ev.s5 {α β γ δ ε : Type} (R : Nat → α → β → γ → δ → ε → Prop) (a : α) (b : β) (c : γ) (d : δ) (e : ε) : Ev (fun n => R (n + 1) a b c d e) ↔ Ev (fun n => R n a b c d e) := Ev.s0 (fun n => R n a b c d e)
@[simp] theorem Ev.k {p : Prop} : Ev (fun _ => p) ↔ p := ⟨fun ⟨_, h⟩ => h _ (Nat.le_refl _), Ev.const⟩
@[simp] theorem Ev.iteI {c : Prop} [Decidable c] {P Q : Nat → Prop} : Ev (fun n => if c then P n else Q n) ↔ if c then Ev P else Ev Q := by
 by_cases h : c <;> simp only [h, if_true, if_false]
@[simp] theorem Ev.andI {P Q : Nat → Prop} : Ev (fun n => P n ∧ Q n) ↔ Ev P ∧ Ev Q :=
 ⟨fun ⟨N, h⟩ => ⟨⟨N, fun n hn => (h n hn).1⟩, ⟨N, fun n hn => (h n hn).2⟩⟩, fun h => Ev.and h.1 h.2⟩
theorem grd_dec {p : Prop} [Decidable p] {P : Prop} (h : p) : grd (decide p) P ↔ P := by rw [decide_eq_true h]; exact Iff.rfl
theorem grd_dec2 {p q : Prop} [Decidable p] [Decidable q] {P : Prop} (h : p ∧ q) : grd (decide p && decide q) P ↔ P := by rw [decide_eq_true h.1, decide_eq_true h.2]; exact Iff.rfl
theorem grd_dec3 {p q r : Prop} [Decidable p] [Decidable q] [Decidable r] {P : Prop} (h : p ∧ q ∧ r) : grd (decide p && decide q && decide r) P ↔ P := by rw [decide_eq_true h.1, decide_eq_true h.2.1, decide_eq_true h.2.2]; exact Iff.rfl
@[simp] theorem grd_true {P : Prop} : grd true P ↔ P := Iff.rfl
theorem drop_nil {α : Type} {l : List α} {x : Int} (h : l.drop x.toNat = []) (h0 : 0 ≤ x) : (l.length : Int) ≤ x := by
 have := List.drop_eq_nil_iff.1 h; omega
theorem drop_cons {α : Type} [Inhabited α] {l ys : List α} {x : Int} {y : α} (h : l.drop x.toNat = y :: ys) (h0 : 0 ≤ x) :
  x < (l.length : Int) ∧ rd l x.toNat = y ∧ l.drop (x + 1).toNat = ys := by
 have hl : x.toNat < l.length := by
  rcases Nat.lt_or_ge x.toNat l.length with h' | h'
  ·exact h'
  ·rw [List.drop_eq_nil_of_le h'] at h; cases h
 refine ⟨by omega, ?_, ?_⟩
 ·have := List.getElem?_drop (xs := l) (i := x.toNat) (j := 0)
  rw [h] at this
  simp only [List.getElem?_cons_zero, Nat.add_zero] at this
  simp [rd, List.getD_eq_getElem?_getD, ← this]
 ·rw [show (x + 1).toNat = x.toNat + 1 from by omega, ← List.drop_drop, h]; rfl
theorem rd_set {α : Type} [Inhabited α] {l : List α} {i : Nat} {v : α} (h : i < l.length) : rd (l.set i v) i = v := by
 simp [rd, List.getD_eq_getElem?_getD, h]
theorem ev_arg {α : Type} {R : Nat → α → Prop} {a b : α} (h : a = b) : Ev (fun n => R n a) ↔ Ev (fun n => R n b) := by rw [h]
theorem ev_bool {R : Nat → Bool → Prop} {b : Bool} : (if b = true then Ev (fun n => R n true) else Ev (fun n => R n false)) ↔ Ev (fun n => R n b) := by cases b <;> simp
def Gd : (t : Ty) → t.T → Prop
 | .int k, n => k.min ≤ n ∧ n ≤ k.max
 | .str, s => s.length ≤ 9223372036854775807
 | .sl _ t, l => l.length ≤ 9223372036854775807 ∧ ∀ y, y ∈ l → Gd t y
 | .prod a b, p => Gd a p.1 ∧ Gd b p.2
 | .bool, _ => True
 | .unit, _ => True
 | .ptr _ _, _ => True
def firstIx {α : Type} (p : α → Bool) : List α → Int → Int
 | [], _ => -1
 | y :: r, x => if p y = true then x else firstIx p r (x + 1)
theorem firstIx_neg {α : Type} {p : α → Bool} : ∀ {l : List α} {x : Int}, 0 ≤ x → firstIx p l x < 0 → firstIx p l x = -1
 | [], x, _, _ => rfl
 | y :: l, x, h0, h => by
  rw [firstIx] at h ⊢
  split
  ·rename_i hp; rw [if_pos hp] at h; omega
  ·rename_i hp; rw [if_neg hp] at h; exact firstIx_neg (by omega) h
theorem firstIx_any {α : Type} {p : α → Bool} : ∀ {l : List α} {x : Int}, 0 ≤ x → decide (firstIx p l x ≥ 0) = l.any p
 | [], x, _ => by simp [firstIx]
 | y :: l, x, h0 => by
  rw [firstIx, List.any_cons]
  by_cases hp : p y = true
  ·simp [hp, h0]
  ·rw [if_neg hp, firstIx_any (by omega)]
   simp only [Bool.not_eq_true] at hp
   simp [hp]
end Go.Vsi
end

section
set_option linter.unusedVariables false
set_option linter.unusedSimpArgs false
set_option synthInstance.maxSize 4096
namespace Go.Vsi
theorem Ev.impI {p : Prop} {P : Nat → Prop} : Ev (fun n => p → P n) ↔ (p → Ev P) := by
 by_cases h : p
 ·simp only [h, true_imp_iff]
 ·simp only [h, false_imp_iff, iff_true]; exact ⟨0, fun _ _ => trivial⟩
theorem clone_ev {l : List Int} (hl : l.length ≤ 1099511627776) (R : Nat → List Int → Prop) :
  Ev (fun n => slices_Clone_uint64.c n l (R n)) ↔ Ev (fun n => R n l) := by
 refine Ev.suc.trans ?_
 simp (disch := (simp only [List.length_nil]; omega)) only [slices_Clone_uint64.c, slices_Clone_uint64.w, Ev.andI, Ev.impI, grd_dec, List.nil_append, Ev.s1 R]
 constructor
 ·exact fun h => h.2
 ·refine fun h => ⟨fun e => ?_, h⟩
  rw [List.eq_nil_of_length_eq_zero e] at h; exact h
theorem cloneBits_ev {a : Int} {l : List Int} (hl : l.length ≤ 1099511627776) (R : Nat → Int → List Int → Prop) :
  Ev (fun n => impl_cloneBits.c n a l (R n)) ↔ Ev (fun n => R n a l) := by
 refine Ev.suc.trans ?_
 simp (disch := omega) only [impl_cloneBits.c, impl_cloneBits.w, Ev.andI, and_self, clone_ev, Ev.s2 R]
theorem copyBits_ev {a : Int} {l : List Int} (hl : l.length ≤ 1099511627776) (R : Nat → Int → List Int → Prop) :
  Ev (fun n => spec_l8CopyBits.c n a l (R n)) ↔ Ev (fun n => R n a l) := by
 refine Ev.suc.trans ?_
 simp (disch := (simp only [List.length_nil]; omega)) only [spec_l8CopyBits.c, spec_l8CopyBits.w, and_self, grd_dec, List.nil_append, Ev.s2 R]
end Go.Vsi
end

section
set_option linter.unusedVariables false
set_option linter.unusedSimpArgs false
set_option synthInstance.maxSize 4096
namespace Go.Vsi
def Wd (l : List Int) : Prop := ∀ x ∈ l, 0 ≤ x ∧ x ≤ 18446744073709551615
def bitsOk (w : Int) (l : List Int) : Bool := decide (1 ≤ w ∧ w ≤ 4096 ∧ (l.length : Int) = (w + 63) / 64 ∧ (w % 64 = 0 ∨ rd l (l.length - 1) / 2 ^ (w % 64).toNat = 0))
theorem bit_div {x j : Nat} : x / 2 ^ j % 2 = (x.testBit j).toNat := by
 rw [Nat.testBit, Nat.shiftRight_eq_div_pow, Nat.one_and_eq_mod_two]
 rcases Nat.mod_two_eq_zero_or_one (x / 2 ^ j) with h | h <;> simp [h]
theorem l1In_ev {a b c : Int} (R : Nat → Bool → Prop) : Ev (fun n => spec_l1In.c n a b c (R n)) ↔ Ev (fun n => R n (decide (b ≤ a ∧ a ≤ c))) := by
 refine Ev.suc.trans ?_
 simp only [spec_l1In.c, spec_l1In.w, Ev.iteI, decide_eq_true_eq, Ev.s1 R, ge_iff_le]
 split
 ·refine ev_arg ?_; rw [decide_eq_decide]; omega
 ·refine ev_arg ?_; symm; rw [decide_eq_false_iff_not]; omega
theorem inside_ev {a b c : Int} (R : Nat → Bool → Prop) : Ev (fun n => impl_inside.c n a b c (R n)) ↔ Ev (fun n => R n (decide (b ≤ a ∧ a ≤ c))) := by
 refine Ev.suc.trans ?_
 simp only [impl_inside.c, impl_inside.w, Ev.iteI, decide_eq_true_eq, Ev.s1 R, ge_iff_le]
 split
 ·refine ev_arg ?_; rw [decide_eq_decide]; omega
 ·refine ev_arg ?_; symm; rw [decide_eq_false_iff_not]; omega
theorem wordsFor_ev {a : Int} (h0 : 0 ≤ a) (h1 : a ≤ 1000000000) (R : Nat → Int → Prop) : Ev (fun n => impl_wordsFor.c n a (R n)) ↔ Ev (fun n => R n ((a + 63) / 64)) := by
 refine Ev.suc.trans ?_
 simp (disch := omega) only [impl_wordsFor.c, impl_wordsFor.w, wrap64, tdivP, Ev.s1 R]
theorem l1Bit_ev {ws : List Nat} (hw : Below 18446744073709551616 ws) {k : Nat} (hk : k < 64 * ws.length) (hl : ws.length ≤ 4096) {w : Int} (R : Nat → Int → Prop) :
  Ev (fun n => spec_l1Bit.c n w (W ws) k (R n)) ↔ Ev (fun n => R n ((bit ws k).toNat : Int)) := by
 refine Ev.suc.trans ?_
 have e : ibits .and .u64 ((ws.getD (k / 64) 0 >>> (k % 64) : Nat) : Int) 1 = (((bit ws k).toNat : Nat) : Int) := by
  have hx : ws.getD (k / 64) 0 >>> (k % 64) < 18446744073709551616 := by
   rw [Nat.shiftRight_eq_div_pow]; exact Nat.lt_of_le_of_lt (Nat.div_le_self _ _) (hw.getD (by decide) _)
  rw [show (1 : Int) = ((1 : Nat) : Int) from rfl, and_W hx (by decide), Nat.and_one_is_mod, Nat.shiftRight_eq_div_pow, bit_div]; rfl
 have e1 : Int.toNat ((k : Int) / 64) = k / 64 := by omega
 have e2 : Int.toNat ((k : Int) % 64) = k % 64 := by omega
 simp (disch := omega) only [spec_l1Bit.c, spec_l1Bit.w, W_len, tdivP, tmodP, wrap64, wrapU, grd_dec2, grd_dec, e1, e2, W_rd, shr_W, e]
 rw [wrap8 (by omega) (by cases bit ws k <;> simp), Ev.s1 R]
theorem specOk_lp {ws : List Nat} (hw : Below 18446744073709551616 ws) (hl : ws.length ≤ 4096) {w : Int} : ∀ (m k : Nat), k + m = 64 * ws.length → ∃ b : Bool, (b = true ↔ ∀ i, k ≤ i → bit ws i = false) ∧
  ∀ (Kx : Nat → Prop) (Kr : Nat → Bool → Prop), (Ev (fun n => spec_BitsOk.l4 n w (W ws) k (Kx n) (Kr n)) ↔ if b = true then Ev Kx else Ev (fun n => Kr n false))
 | 0, k, h => by
  refine ⟨true, ⟨fun _ i hi => bit_out (by omega), fun _ => rfl⟩, fun Kx Kr => ?_⟩
  refine Ev.suc.trans ?_
  simp (disch := omega) only [spec_BitsOk.l4, spec_BitsOk.l4.b, W_len, wrap64, if_neg, decide_eq_true_eq, Ev.s0 Kx, if_true]
 | m + 1, k, h => by
  obtain ⟨b, hb, kk⟩ := specOk_lp hw hl (w := w) m (k + 1) (by omega)
  refine ⟨b && !bit ws k, ?_, fun Kx Kr => ?_⟩
  ·simp only [Bool.and_eq_true, Bool.not_eq_true', hb]
   constructor
   ·rintro ⟨h1, h2⟩ i hi
    rcases Nat.lt_or_eq_of_le hi with h' | rfl
    ·exact h1 i h'
    ·exact h2
   ·exact fun h => ⟨fun i hi => h i (by omega), h k (Nat.le_refl _)⟩
  ·refine Ev.suc.trans ?_
   have e : ((k : Int) + 1) = ((k + 1 : Nat) : Int) := by omega
   simp (disch := omega) only [spec_BitsOk.l4, spec_BitsOk.l4.b, W_len, wrap64, if_pos, decide_eq_true_eq, l1Bit_ev hw _ hl, Ev.iteI, Bool.not_eq_true', decide_eq_false_iff_not, e, kk, Ev.s0 Kx, Ev.s1 Kr]
   cases bit ws k <;> simp
theorem top_last {w : Int} {ws : List Nat} (hw : Below 18446744073709551616 ws) (h1 : 1 ≤ w) (h2 : (ws.length : Int) = (w + 63) / 64) (hr : w % 64 ≠ 0) :
  ws.getD (ws.length - 1) 0 >>> (w % 64).toNat = 0 ↔ ∀ i : Nat, w ≤ i → bit ws i = false := by
 constructor
 ·intro h i hi
  by_cases ho : 64 * ws.length ≤ i
  ·exact bit_out ho
  ·have e1 : i / 64 = ws.length - 1 := by omega
   have := congrArg (fun y => Nat.testBit y (i % 64 - (w % 64).toNat)) h
   simp only [Nat.testBit_shiftRight, Nat.zero_testBit] at this
   rw [show (w % 64).toNat + (i % 64 - (w % 64).toNat) = i % 64 from by omega] at this
   rw [bit, e1]; exact this
 ·intro h
  apply Nat.eq_of_testBit_eq
  intro j
  rw [Nat.testBit_shiftRight, Nat.zero_testBit]
  by_cases hj : (w % 64).toNat + j < 64
  ·have := h (64 * (ws.length - 1) + ((w % 64).toNat + j)) (by omega)
   rw [bit, show (64 * (ws.length - 1) + ((w % 64).toNat + j)) / 64 = ws.length - 1 from by omega, show (64 * (ws.length - 1) + ((w % 64).toNat + j)) % 64 = (w % 64).toNat + j from by omega] at this
   exact this
  ·exact Nat.testBit_lt_two_pow (Nat.lt_of_lt_of_le (hw.getD (by decide) _) (Nat.pow_le_pow_right (n := 2) (by decide) (Nat.not_lt.mp hj)))
theorem bitsOk_W {w : Int} {ws : List Nat} (hw : Below 18446744073709551616 ws) : bitsOk w (W ws) = true ↔ 1 ≤ w ∧ w ≤ 4096 ∧ (ws.length : Int) = (w + 63) / 64 ∧ ∀ i : Nat, w ≤ i → bit ws i = false := by
 rw [bitsOk, decide_eq_true_eq, W_len, W_rd]
 refine ⟨fun ⟨h1, h2, h3, h4⟩ => ⟨h1, h2, h3, ?_⟩, fun ⟨h1, h2, h3, h4⟩ => ⟨h1, h2, h3, ?_⟩⟩
 ·by_cases h5 : w % 64 = 0
  ·exact fun i hi => bit_out (by omega)
  ·rcases h4 with h4 | h4
   ·exact absurd h4 h5
   ·rw [← top_last hw h1 h3 h5, Nat.shiftRight_eq_div_pow]
    exact_mod_cast h4
 ·by_cases h5 : w % 64 = 0
  ·exact Or.inl h5
  ·have := (top_last hw h1 h3 h5).2 h4
   rw [Nat.shiftRight_eq_div_pow] at this
   exact Or.inr (by exact_mod_cast this)
theorem Wd.of {l : List Int} (h : Wd l) : ∃ ws, l = W ws ∧ Below 18446744073709551616 ws := W_of fun x hx => ⟨(h x hx).1, by have := (h x hx).2; omega⟩
theorem specOk_ev {w : Int} {l : List Int} (hw : Wd l) (R : Nat → Bool → Prop) : Ev (fun n => spec_BitsOk.c n w l (R n)) ↔ Ev (fun n => R n (bitsOk w l)) := by
 obtain ⟨ws, rfl, hB⟩ := hw.of
 have hiff := bitsOk_W (w := w) hB
 refine Ev.suc.trans ?_
 simp (disch := omega) only [spec_BitsOk.c, spec_BitsOk.w, l1In_ev, Ev.iteI, Bool.not_eq_false', Bool.not_eq_true', decide_eq_true_eq, decide_eq_false_iff_not, W_len]
 by_cases h1 : 1 ≤ w ∧ w ≤ 4096
 ·rw [if_pos h1, wrap64 (x := w + 63) (by omega) (by omega), tdivP (by omega), wrap64 (by omega) (by omega)]
  by_cases h2 : (ws.length : Int) = (w + 63) / 64
  ·obtain ⟨b, hb, kk⟩ := specOk_lp hB (by omega) (w := w) (64 * ws.length - w.toNat) w.toNat (by omega)
   have e : ((w.toNat : Nat) : Int) = w := by omega
   rw [e] at kk
   rw [if_neg (by omega), kk, Ev.s1 R, Ev.s1 R]
   have : b = bitsOk w (W ws) := by
    rw [Bool.eq_iff_iff, hb, hiff]
    exact ⟨fun h => ⟨h1.1, h1.2, h2, fun i hi => h i (by omega)⟩, fun h i hi => h.2.2.2 i (by omega)⟩
   rw [← this]
   cases b <;> rfl
  ·rw [if_pos h2, Ev.s1 R]
   have : bitsOk w (W ws) = false := by
    rw [Bool.eq_false_iff]; intro h; exact h2 (hiff.1 h).2.2.1
   rw [this]
 ·rw [if_neg h1, Ev.s1 R]
  have : bitsOk w (W ws) = false := by
   rw [Bool.eq_false_iff]; intro h; exact h1 ⟨(hiff.1 h).1, (hiff.1 h).2.1⟩
  rw [this]
theorem implOk_ev {w : Int} {l : List Int} (R : Nat → Bool → Prop) : Ev (fun n => impl_BitsOk.c n w l (R n)) ↔ Ev (fun n => R n (bitsOk w l)) := by
 refine Ev.suc.trans ?_
 simp only [impl_BitsOk.c, impl_BitsOk.w, inside_ev, Ev.iteI, Ev.andI, Bool.not_eq_false', Bool.not_eq_true', decide_eq_true_eq, decide_eq_false_iff_not, Ev.s1 R, and_self]
 by_cases h1 : 1 ≤ w ∧ w ≤ 4096
 ·rw [if_pos h1]
  simp (disch := omega) only [wordsFor_ev, Ev.iteI, Bool.not_eq_true', decide_eq_false_iff_not, Ev.s1 R]
  by_cases h2 : (l.length : Int) = (w + 63) / 64
  ·rw [if_neg (by omega)]
   simp (disch := omega) only [impl_BitsOk.j0, tmodP, Ev.iteI, decide_eq_false_iff_not, wrap64, grd_dec2, grd_dec, Ev.s1 R]
   by_cases h3 : w % 64 = 0
   ·rw [if_neg (by omega), show bitsOk w l = true from by simp [bitsOk, h1, h2, h3]]
   ·rw [if_pos h3]
    refine ev_arg ?_
    have e1 : ((l.length : Int) - 1).toNat = l.length - 1 := by omega
    have e2 : Nat.min (w % 64).toNat 64 = (w % 64).toNat := Nat.min_eq_left (by omega)
    rw [e1, e2, fdivP (Int.le_of_lt (Int.pow_pos (by decide)))]
    simp [bitsOk, h1, h2, h3]
  ·rw [if_pos h2, show bitsOk w l = false from by simp [bitsOk, h2]]
 ·rw [if_neg h1, show bitsOk w l = false from by
   rw [Bool.eq_false_iff]; intro h; rw [bitsOk, decide_eq_true_eq] at h; exact h1 ⟨h.1, h.2.1⟩]
end Go.Vsi
end

section
set_option linter.unusedVariables false
set_option linter.unusedSimpArgs false
set_option synthInstance.maxSize 4096
namespace Go.Vsi
theorem getD_cons {l ys : List UInt8} {x : Int} {y : UInt8} (h : l.drop x.toNat = y :: ys) (h0 : 0 ≤ x) : x < (l.length : Int) ∧ List.getD l x.toNat 0 = y ∧ l.drop (x + 1).toNat = ys :=
 drop_cons h h0
def chOk (c : UInt8) : Bool := decide ((97 ≤ (c.toNat : Int) ∧ (c.toNat : Int) ≤ 122) ∨ (48 ≤ (c.toNat : Int) ∧ (c.toNat : Int) ≤ 57))
def nameOk (s : List UInt8) : Bool := decide (1 ≤ s.length ∧ s.length ≤ 12 ∧ 97 ≤ ((List.getD s 0 0).toNat : Int) ∧ ((List.getD s 0 0).toNat : Int) ≤ 122) && s.all chOk
theorem nameOk_lp {s : List UInt8} (hl : s.length ≤ 1099511627776) : ∀ (ys : List UInt8) (x : Int), s.drop x.toNat = ys → 0 ≤ x → ∀ (Kx : Nat → Prop) (Kr : Nat → Bool → Prop),
  (Ev (fun n => impl_nameOk.l4 n s x (Kx n) (Kr n)) ↔ if ys.all chOk = true then Ev Kx else Ev (fun n => Kr n false))
 | [], x, h, h0, Kx, Kr => by
  have := drop_nil h h0
  refine Ev.suc.trans ?_
  simp (disch := omega) only [impl_nameOk.l4, impl_nameOk.l4.b, if_neg, decide_eq_true_eq, Ev.s0 Kx, List.all_nil, if_true]
 | y :: ys, x, h, h0, Kx, Kr => by
  obtain ⟨e1, e2, e3⟩ := getD_cons h h0
  refine Ev.suc.trans ?_
  simp (disch := omega) only [impl_nameOk.l4, impl_nameOk.l4.b, if_pos, decide_eq_true_eq, decide_eq_false_iff_not, grd_dec2, e2, wrap64, Ev.iteI, nameOk_lp hl ys (x + 1) e3, Ev.s0 Kx, Ev.s1 Kr, List.all_cons, Bool.and_eq_true]
  simp only [chOk, decide_eq_true_eq]
  (repeat' split) <;> first | rfl | (exfalso; omega) | (exfalso; simp_all; omega) | (simp_all; done)
theorem nameOk_ev {s : List UInt8} (R : Nat → Bool → Prop) : Ev (fun n => impl_nameOk.c n s (R n)) ↔ Ev (fun n => R n (nameOk s)) := by
 refine Ev.suc.trans ?_
 simp only [impl_nameOk.c, impl_nameOk.w, Ev.iteI, decide_eq_true_eq, decide_eq_false_iff_not, nameOk]
 by_cases h1 : 1 ≤ s.length ∧ s.length ≤ 12
 ·rw [if_pos (by omega), if_pos (by omega)]
  simp (disch := omega) only [grd_dec, Ev.iteI, nameOk_lp (by omega) s 0 rfl, Ev.s1 R, decide_eq_false_iff_not, decide_eq_true_eq]
  by_cases h2 : 97 ≤ ((List.getD s 0 0).toNat : Int) ∧ ((List.getD s 0 0).toNat : Int) ≤ 122
  ·rw [if_pos (by omega), if_neg (by omega)]
   rw [show (decide (1 ≤ s.length ∧ s.length ≤ 12 ∧ 97 ≤ ((List.getD s 0 0).toNat : Int) ∧ ((List.getD s 0 0).toNat : Int) ≤ 122)) = true from by rw [decide_eq_true_eq]; omega, Bool.true_and]
   exact ev_bool
  ·rw [show (decide (1 ≤ s.length ∧ s.length ≤ 12 ∧ 97 ≤ ((List.getD s 0 0).toNat : Int) ∧ ((List.getD s 0 0).toNat : Int) ≤ 122)) = false from by rw [decide_eq_false_iff_not]; omega, Bool.false_and]
   split <;> (try split) <;> first | rfl | (exfalso; omega)
 ·rw [show (decide (1 ≤ s.length ∧ s.length ≤ 12 ∧ 97 ≤ ((List.getD s 0 0).toNat : Int) ∧ ((List.getD s 0 0).toNat : Int) ≤ 122)) = false from by rw [decide_eq_false_iff_not]; omega, Bool.false_and, Ev.s1 R]
  split <;> (try split) <;> first | rfl | (exfalso; omega)
theorem l1Digit_ev {a : Int} (R : Nat → Bool → Prop) : Ev (fun n => spec_l1Digit.c n a (R n)) ↔ Ev (fun n => R n (decide (48 ≤ a ∧ a ≤ 57))) := by
 refine Ev.suc.trans ?_
 simp only [spec_l1Digit.c, spec_l1Digit.w, Ev.iteI, decide_eq_true_eq, Ev.s1 R, ge_iff_le]
 split
 ·refine ev_arg ?_; rw [decide_eq_decide]; omega
 ·refine ev_arg ?_; symm; rw [decide_eq_false_iff_not]; omega
theorem l1Name_lp {s : List UInt8} (hl : s.length ≤ 1099511627776) : ∀ (ys : List UInt8) (x : Int), s.drop x.toNat = ys → 0 ≤ x → ∀ (Kx : Nat → Prop) (Kr : Nat → Bool → Prop),
  (Ev (fun n => spec_l1Name.l4 n s x (Kx n) (Kr n)) ↔ if ys.all chOk = true then Ev Kx else Ev (fun n => Kr n false))
 | [], x, h, h0, Kx, Kr => by
  have := drop_nil h h0
  refine Ev.suc.trans ?_
  simp (disch := omega) only [spec_l1Name.l4, spec_l1Name.l4.b, if_neg, decide_eq_true_eq, Ev.s0 Kx, List.all_nil, if_true]
 | y :: ys, x, h, h0, Kx, Kr => by
  obtain ⟨e1, e2, e3⟩ := getD_cons h h0
  refine Ev.suc.trans ?_
  simp (disch := omega) only [spec_l1Name.l4, spec_l1Name.l4.b, if_pos, decide_eq_true_eq, decide_eq_false_iff_not, Bool.not_eq_true', grd_dec2, e2, wrap64, l1Digit_ev, Ev.iteI, l1Name_lp hl ys (x + 1) e3, Ev.s0 Kx, Ev.s1 Kr, List.all_cons, Bool.and_eq_true]
  simp only [chOk, decide_eq_true_eq]
  (repeat' split) <;> first | rfl | (exfalso; omega) | (exfalso; simp_all; omega) | (simp_all; done)
theorem l1Name_ev {s : List UInt8} (R : Nat → Bool → Prop) : Ev (fun n => spec_l1Name.c n s (R n)) ↔ Ev (fun n => R n (nameOk s)) := by
 refine Ev.suc.trans ?_
 simp only [spec_l1Name.c, spec_l1Name.w, Ev.iteI, decide_eq_true_eq, decide_eq_false_iff_not, nameOk]
 by_cases h1 : 1 ≤ s.length ∧ s.length ≤ 12
 ·rw [if_pos (by omega), if_pos (by omega)]
  simp (disch := omega) only [grd_dec, l1Digit_ev, Ev.iteI, l1Name_lp (by omega) s 0 rfl, Ev.s1 R, decide_eq_false_iff_not, decide_eq_true_eq]
  match s, h1 with
  | c :: r, h1 =>
   have e : (List.getD (c :: r) 0 0) = c := rfl
   rw [e]
   by_cases h2 : 48 ≤ (c.toNat : Int) ∧ (c.toNat : Int) ≤ 57
   ·rw [if_pos h2, show (decide (1 ≤ (c :: r).length ∧ (c :: r).length ≤ 12 ∧ 97 ≤ (c.toNat : Int) ∧ (c.toNat : Int) ≤ 122)) = false from by rw [decide_eq_false_iff_not]; omega, Bool.false_and]
   ·rw [if_neg h2]
    by_cases h3 : chOk c = true
    ·have : 97 ≤ (c.toNat : Int) ∧ (c.toNat : Int) ≤ 122 := by
      rw [chOk, decide_eq_true_eq] at h3; omega
     rw [show (decide (1 ≤ (c :: r).length ∧ (c :: r).length ≤ 12 ∧ 97 ≤ (c.toNat : Int) ∧ (c.toNat : Int) ≤ 122)) = true from by rw [decide_eq_true_eq]; omega, Bool.true_and]
     exact ev_bool
    ·rw [List.all_cons, if_neg (by simp [h3]), show chOk c = false from by simpa using h3, Bool.false_and, Bool.and_false]
  | [], h1 => simp at h1
 ·rw [show (decide (1 ≤ s.length ∧ s.length ≤ 12 ∧ 97 ≤ ((List.getD s 0 0).toNat : Int) ∧ ((List.getD s 0 0).toNat : Int) ≤ 122)) = false from by rw [decide_eq_false_iff_not]; omega, Bool.false_and, Ev.s1 R]
  split <;> (try split) <;> first | rfl | (exfalso; omega)
theorem declared1_ev {a : List UInt8} {b : Int} {z : List UInt8} (R : Nat → Bool → Prop) : Ev (fun n => impl_declared_1.c n a b z (R n)) ↔ Ev (fun n => R n (decide (a = z))) := by
 refine Ev.suc.trans ?_
 simp only [impl_declared_1.c, impl_declared_1.w, Ev.s1 R]
 refine ev_arg ?_
 rw [Bool.eq_iff_iff]; simp
theorem slices_IndexFunc_Decl__impl_declared_1_lp {l : List tDecl} {z : List UInt8} (hl : l.length ≤ 1099511627776) : ∀ (ys : List tDecl) (x : Int), l.drop x.toNat = ys → 0 ≤ x →
  ∀ (Kx : Nat → Prop) (Kr : Nat → Int → Prop),
  (Ev (fun n => slices_IndexFunc_Decl__impl_declared_1.l2 n l z l.length x (Kx n) (Kr n)) ↔ if firstIx (fun y => decide (y.1 = z)) ys x < 0 then Ev Kx else Ev (fun n => Kr n (firstIx (fun y => decide (y.1 = z)) ys x)))
 | [], x, h, h0, Kx, Kr => by
  have := drop_nil h h0
  rw [firstIx, if_pos (by decide)]
  refine Ev.suc.trans ?_
  simp (disch := omega) only [slices_IndexFunc_Decl__impl_declared_1.l2, slices_IndexFunc_Decl__impl_declared_1.l2.b, if_neg, decide_eq_true_eq, Ev.s0 Kx]
 | y :: ys, x, h, h0, Kx, Kr => by
  obtain ⟨e1, e2, e3⟩ := drop_cons h h0
  refine Ev.suc.trans ?_
  simp (disch := first | omega | omega) only [slices_IndexFunc_Decl__impl_declared_1.l2, slices_IndexFunc_Decl__impl_declared_1.l2.b, if_pos, decide_eq_true_eq, grd_dec2, e2, wrap64, Ev.s1 Kr, declared1_ev, Ev.iteI]
  rw [slices_IndexFunc_Decl__impl_declared_1_lp hl ys (x + 1) e3 (by omega), Ev.s0 Kx, Ev.s1 Kr]
  simp only [firstIx, decide_eq_true_eq]
  split
  ·rw [if_neg (by omega)]
  ·rfl
theorem slices_IndexFunc_Decl__impl_declared_1_ev {l : List tDecl} {z : List UInt8} (hl : l.length ≤ 1099511627776) (R : Nat → Int → Prop) :
  Ev (fun n => slices_IndexFunc_Decl__impl_declared_1.c n l z (R n)) ↔ Ev (fun n => R n (firstIx (fun y => decide (y.1 = z)) l 0)) := by
 refine Ev.suc.trans ?_
 simp only [slices_IndexFunc_Decl__impl_declared_1.c, slices_IndexFunc_Decl__impl_declared_1.w]
 rw [slices_IndexFunc_Decl__impl_declared_1_lp hl l 0 rfl (by omega), Ev.s1 R, Ev.s1 R]
 split
 ·rw [firstIx_neg (by omega) ‹_›]
 ·rfl
theorem declared_ev {l : List tDecl} {z : List UInt8} (hl : l.length ≤ 1099511627776) (R : Nat → Int → Prop) : Ev (fun n => impl_declared.c n l z (R n)) ↔ Ev (fun n => R n (firstIx (fun y => decide (y.1 = z)) l 0)) := by
 refine Ev.suc.trans ?_
 simp only [impl_declared.c, impl_declared.w]
 rw [slices_IndexFunc_Decl__impl_declared_1_ev hl, Ev.s1 R]
def declsGo : List tDecl → List tDecl → Int → Bool
 | _, [], t => decide (t ≤ 20000)
 | pre, y :: r, t => nameOk y.1 && decide (1 ≤ y.2 ∧ y.2 ≤ 4096) && !(pre.any fun z => decide (z.1 = y.1)) && declsGo (pre ++ [y]) r (t + y.2)
def declsOk (l : List tDecl) : Bool := decide (l.length ≤ 60) && declsGo [] l 0
theorem take_succ {α : Type} {l ys : List α} {x : Int} {y : α} (h : l.drop x.toNat = y :: ys) (h0 : 0 ≤ x) : l.take (x + 1).toNat = l.take x.toNat ++ [y] := by
 have hl : x.toNat < l.length := by
  rcases Nat.lt_or_ge x.toNat l.length with h' | h'
  ·exact h'
  ·rw [List.drop_eq_nil_of_le h'] at h; cases h
 rw [show (x + 1).toNat = x.toNat + 1 from by omega, List.take_succ_eq_append_getElem hl]
 congr 2
 have := List.getElem?_drop (xs := l) (i := x.toNat) (j := 0)
 rw [h] at this
 simp only [List.getElem?_cons_zero, Nat.add_zero, List.getElem?_eq_getElem hl, Option.some.injEq] at this
 exact this.symm
theorem declsOk_lp {l : List tDecl} (hl : l.length ≤ 60) : ∀ (ys : List tDecl) (x t : Int), l.drop x.toNat = ys → 0 ≤ x → 0 ≤ t → t ≤ 4096 * x → ∀ (R : Nat → Bool → Prop),
  (Ev (fun n => impl_DeclsOk.l5 n l l l.length t x (fun y => R n (decide (y ≤ 20000))) (R n)) ↔ Ev (fun n => R n (declsGo (l.take x.toNat) ys t)))
 | [], x, t, h, h0, ht, ht', R => by
  have := drop_nil h h0
  refine Ev.suc.trans ?_
  simp (disch := omega) only [impl_DeclsOk.l5, impl_DeclsOk.l5.b, if_neg, decide_eq_true_eq, Ev.s1 R, declsGo]
 | y :: ys, x, t, h, h0, ht, ht', R => by
  obtain ⟨e1, e2, e3⟩ := drop_cons h h0
  refine Ev.suc.trans ?_
  have hd : (List.drop 0 (List.take x.toNat l)).length ≤ 1099511627776 := by simp; omega
  simp (disch := omega) only [impl_DeclsOk.l5, impl_DeclsOk.l5.b, if_pos, decide_eq_true_eq, grd_dec2, e2, nameOk_ev, inside_ev, Ev.iteI, Bool.not_eq_false', Ev.s1 R, declsGo]
  by_cases h1 : nameOk y.1 = true
  ·by_cases h2 : 1 ≤ y.2 ∧ y.2 ≤ 4096
   ·rw [if_pos h1, if_pos h2]
    simp (disch := omega) only [grd_dec3, declared_ev hd, Ev.iteI, wrap64, ge_iff_le]
    rw [declsOk_lp hl ys (x + 1) (t + y.2) e3 (by omega) (by omega) (by omega), Ev.s1 R, Ev.s1 R, take_succ h h0]
    have e := firstIx_any (p := fun z : tDecl => decide (z.1 = y.1)) (l := List.take x.toNat l) (x := 0) (by omega)
    rw [List.drop_zero]
    by_cases h3 : 0 ≤ firstIx (fun z : tDecl => decide (z.1 = y.1)) (List.take x.toNat l) 0
    ·rw [if_pos h3, ← e]; simp [h1, h2, h3]
    ·rw [if_neg h3, ← e]; simp [h1, h2, h3]
   ·rw [if_pos h1, if_neg h2]; simp [h1, h2]
  ·rw [if_neg h1]; simp [h1]
theorem declsOk_ev {l : List tDecl} (R : Nat → Bool → Prop) : Ev (fun n => impl_DeclsOk.c n l (R n)) ↔ Ev (fun n => R n (declsOk l)) := by
 refine Ev.suc.trans ?_
 simp only [impl_DeclsOk.c, impl_DeclsOk.w, Ev.iteI, decide_eq_true_eq, declsOk]
 by_cases h : l.length ≤ 60
 ·rw [if_neg (by omega), declsOk_lp h l 0 0 rfl (by omega) (by omega) (by omega) (fun n => R (n + 1)), Ev.s1 R]
  simp [h]
 ·rw [if_pos (by omega), Ev.s1 R]; simp [h]
theorem declsOkS_in {l : List tDecl} {t i : Int} {y : tDecl} (hl : l.length ≤ 60) (hi : rd l i.toNat = y) (hi0 : 0 ≤ i) (hi1 : i < (l.length : Int)) : ∀ (m : Nat) (k : Int), k + m = i → 0 ≤ k → ∀ (Kx : Nat → List tDecl → Int → Int → Prop) (Kr : Nat → Bool → Prop),
  (Ev (fun n => spec_DeclsOk.l10 n l t i k (Kx n) (Kr n)) ↔ if (((l.take i.toNat).drop k.toNat).any fun z => decide (z.1 = y.1)) = true then Ev (fun n => Kr n false) else Ev (fun n => Kx n l t i))
 | 0, k, h, h0, Kx, Kr => by
  refine Ev.suc.trans ?_
  simp (disch := omega) only [spec_DeclsOk.l10, spec_DeclsOk.l10.b, if_neg, decide_eq_true_eq, Ev.s3 Kx]
  rw [List.drop_eq_nil_of_le (by simp; omega)]
  simp
 | m + 1, k, h, h0, Kx, Kr => by
  refine Ev.suc.trans ?_
  have e : (l.take i.toNat).drop k.toNat = rd l k.toNat :: (l.take i.toNat).drop (k + 1).toNat := by
   have hk : k.toNat < (l.take i.toNat).length := by simp; omega
   rw [List.drop_eq_getElem_cons hk, show (k + 1).toNat = k.toNat + 1 from by omega]
   congr 1
   rw [List.getElem_take, rd, List.getD_eq_getElem?_getD, List.getElem?_eq_getElem (by omega)]; rfl
  simp (disch := omega) only [spec_DeclsOk.l10, spec_DeclsOk.l10.b, if_pos, decide_eq_true_eq, grd_dec2, hi, wrap64, Ev.iteI, beq_iff_eq, Ev.s1 Kr, e, List.any_cons, Bool.or_eq_true]
  rw [declsOkS_in hl hi hi0 hi1 m (k + 1) (by omega) (by omega), Ev.s1 Kr, Ev.s3 Kx]
  (repeat' split) <;> first | rfl | (exfalso; simp_all; done)
theorem declsOkS_lp {l : List tDecl} (hl : l.length ≤ 60) : ∀ (ys : List tDecl) (x t : Int), l.drop x.toNat = ys → 0 ≤ x → 0 ≤ t → t ≤ 4096 * x → ∀ (R : Nat → Bool → Prop),
  (Ev (fun n => spec_DeclsOk.l5 n l t x (fun y => R n (decide (y ≤ 20000))) (R n)) ↔ Ev (fun n => R n (declsGo (l.take x.toNat) ys t)))
 | [], x, t, h, h0, ht, ht', R => by
  have := drop_nil h h0
  refine Ev.suc.trans ?_
  simp (disch := omega) only [spec_DeclsOk.l5, spec_DeclsOk.l5.b, if_neg, decide_eq_true_eq, Ev.s1 R, declsGo]
 | y :: ys, x, t, h, h0, ht, ht', R => by
  obtain ⟨e1, e2, e3⟩ := drop_cons h h0
  refine Ev.suc.trans ?_
  simp (disch := omega) only [spec_DeclsOk.l5, spec_DeclsOk.l5.b, if_pos, decide_eq_true_eq, grd_dec2, e2, l1Name_ev, l1In_ev, Ev.iteI, Bool.not_eq_false', Bool.not_eq_true', decide_eq_false_iff_not, Ev.s1 R, declsGo, spec_DeclsOk.j3]
  by_cases h1 : nameOk y.1 = true
  ·by_cases h2 : 1 ≤ y.2 ∧ y.2 ≤ 4096
   ·rw [if_pos h1, if_neg (by omega), declsOkS_in hl e2 h0 e1 x.toNat 0 (by omega) (by omega), Ev.s1 R]
    simp (disch := omega) only [grd_dec2, e2, wrap64]
    rw [declsOkS_lp hl ys (x + 1) (t + y.2) e3 (by omega) (by omega) (by omega) (fun n => R (n + 1)), Ev.s1 R, take_succ h h0, show (0 : Int).toNat = 0 from rfl, List.drop_zero]
    split
    ·rename_i h3; simp [h1, h2, h3]
    ·rename_i h3; simp only [Bool.not_eq_true] at h3; simp [h1, h2, h3]
   ·rw [if_pos h1, if_pos h2]; simp [h1, h2]
  ·rw [if_neg h1]; simp [h1]
theorem declsOkS_ev {l : List tDecl} (R : Nat → Bool → Prop) : Ev (fun n => spec_DeclsOk.c n l (R n)) ↔ Ev (fun n => R n (declsOk l)) := by
 refine Ev.suc.trans ?_
 simp only [spec_DeclsOk.c, spec_DeclsOk.w, Ev.iteI, decide_eq_true_eq, declsOk]
 by_cases h : l.length ≤ 60
 ·rw [if_neg (by omega), declsOkS_lp h l 0 0 rfl (by omega) (by omega) (by omega) (fun n => R (n + 1)), Ev.s1 R]
  simp [h]
 ·rw [if_pos (by omega), Ev.s1 R]; simp [h]
end Go.Vsi
end

section
set_option linter.unusedVariables false
set_option linter.unusedSimpArgs false
set_option synthInstance.maxSize 4096
namespace Go.Vsi
theorem has_lp {l : List Int} {a : Int} (hl : l.length ≤ 1099511627776) : ∀ (ys : List Int) (x : Int), l.drop x.toNat = ys → 0 ≤ x → ∀ (Kx : Nat → Prop) (Kr : Nat → Bool → Prop),
  (Ev (fun n => spec_l1Has.l2 n l a x (Kx n) (Kr n)) ↔ if a ∈ ys then Ev (fun n => Kr n true) else Ev Kx)
 | [], x, h, h0, Kx, Kr => by
  have := drop_nil h h0
  refine Ev.suc.trans ?_
  simp (disch := omega) only [spec_l1Has.l2, spec_l1Has.l2.b, if_neg, decide_eq_true_eq, Ev.s0 Kx, List.not_mem_nil, if_false]
 | y :: ys, x, h, h0, Kx, Kr => by
  obtain ⟨e1, e2, e3⟩ := drop_cons h h0
  refine Ev.suc.trans ?_
  simp (disch := omega) only [spec_l1Has.l2, spec_l1Has.l2.b, if_pos, decide_eq_true_eq, grd_dec2, e2, wrap64, Ev.iteI, Ev.s1 Kr]
  rw [has_lp hl ys (x + 1) e3 (by omega), Ev.s0 Kx, Ev.s1 Kr]
  by_cases hy : y = a
  ·subst hy; simp
  ·rw [if_neg hy]
   have : a ∈ y :: ys ↔ a ∈ ys := by simp [Ne.symm hy]
   simp only [this]
theorem has_ev {l : List Int} {a : Int} (hl : l.length ≤ 1099511627776) (R : Nat → Bool → Prop) :
  Ev (fun n => spec_l1Has.c n l a (R n)) ↔ Ev (fun n => R n (decide (a ∈ l))) := by
 refine Ev.suc.trans ?_
 simp only [spec_l1Has.c, spec_l1Has.w]
 rw [has_lp hl l 0 rfl (by omega) (fun n => R (n + 1) false) (fun n => R (n + 1)), Ev.s1 R, Ev.s1 R]
 by_cases h : a ∈ l
 ·rw [if_pos h, decide_eq_true h]
 ·rw [if_neg h, decide_eq_false h]
end Go.Vsi
end

section
set_option linter.unusedVariables false
set_option linter.unusedSimpArgs false
set_option synthInstance.maxSize 4096
namespace Go.Vsi
def valsGo (d : List tDecl) : List tBits → Int → Bool
 | [], _ => true
 | b :: r, x => bitsOk b.1 b.2 && decide (b.1 = (rd d x.toNat).2) && valsGo d r (x + 1)
def valsI (d : List tDecl) (v : List tBits) : Bool := decide (v.length = d.length) && valsGo d v 0
def valsOk (d : List tDecl) (v : List tBits) : Bool := declsOk d && valsI d v
theorem vals_lp {d : List tDecl} {v : List tBits} (hl : v.length = d.length) (hb : v.length ≤ 1099511627776) : ∀ (ys : List tBits) (x : Int), v.drop x.toNat = ys → 0 ≤ x → ∀ (Kx : Nat → Prop) (Kr : Nat → Bool → Prop),
  (Ev (fun n => impl_valuesOk.l4 n d v v.length x (Kx n) (Kr n)) ↔ if valsGo d ys x = true then Ev Kx else Ev (fun n => Kr n false))
 | [], x, h, h0, Kx, Kr => by
  have := drop_nil h h0
  refine Ev.suc.trans ?_
  simp (disch := omega) only [impl_valuesOk.l4, impl_valuesOk.l4.b, if_neg, decide_eq_true_eq, Ev.s0 Kx, valsGo, if_true]
 | y :: ys, x, h, h0, Kx, Kr => by
  obtain ⟨e1, e2, e3⟩ := drop_cons h h0
  refine Ev.suc.trans ?_
  simp (disch := omega) only [impl_valuesOk.l4, impl_valuesOk.l4.b, if_pos, decide_eq_true_eq, grd_dec2, e2, wrap64, implOk_ev, Ev.iteI, Bool.not_eq_false', Bool.not_eq_true', decide_eq_false_iff_not, Ev.s1 Kr]
  rw [vals_lp hl hb ys (x + 1) e3 (by omega), Ev.s0 Kx, Ev.s1 Kr, valsGo]
  by_cases h1 : bitsOk y.1 y.2 = true
  ·rw [if_pos h1, h1, Bool.true_and]
   by_cases h2 : y.1 = (rd d x.toNat).2
   ·rw [if_neg (fun h => h h2), decide_eq_true h2, Bool.true_and]
   ·rw [if_pos h2, decide_eq_false h2]; simp
  ·rw [if_neg h1]; simp [h1]
theorem valsI_ev {d : List tDecl} {v : List tBits} (hd : d.length ≤ 1099511627776) (R : Nat → Bool → Prop) :
  Ev (fun n => impl_valuesOk.c n d v (R n)) ↔ Ev (fun n => R n (valsI d v)) := by
 refine Ev.suc.trans ?_
 simp only [impl_valuesOk.c, impl_valuesOk.w, Ev.iteI, Bool.not_eq_true', decide_eq_false_iff_not, Ev.s1 R, valsI]
 by_cases h : v.length = d.length
 ·rw [if_neg (by omega), vals_lp h (by omega) v 0 rfl (by omega) (fun n => R (n + 1) true) (fun n => R (n + 1)), Ev.s1 R, Ev.s1 R, decide_eq_true h, Bool.true_and]
  cases valsGo d v 0 <;> simp
 ·rw [if_pos (by omega), decide_eq_false h, Bool.false_and]
theorem valsOk_ev {d : List tDecl} {v : List tBits} (hd : d.length ≤ 1099511627776) (R : Nat → Bool → Prop) :
  Ev (fun n => impl_ValuesOk.c n d v (R n)) ↔ Ev (fun n => R n (valsOk d v)) := by
 refine Ev.suc.trans ?_
 simp only [impl_ValuesOk.c, impl_ValuesOk.w, declsOk_ev, Ev.iteI, valsI_ev hd, Ev.s1 R, valsOk]
 cases declsOk d <;> simp
theorem valsS_lp {d : List tDecl} {v : List tBits} (hl : v.length = d.length) (hb : v.length ≤ 1099511627776) (hw : ∀ b ∈ v, Wd b.2) : ∀ (ys : List tBits) (x : Int), v.drop x.toNat = ys → 0 ≤ x → (∀ b ∈ ys, Wd b.2) → ∀ (Kx : Nat → Prop) (Kr : Nat → Bool → Prop),
  (Ev (fun n => spec_ValuesOk.l4 n d v x (Kx n) (Kr n)) ↔ if valsGo d ys x = true then Ev Kx else Ev (fun n => Kr n false))
 | [], x, h, h0, _, Kx, Kr => by
  have := drop_nil h h0
  refine Ev.suc.trans ?_
  simp (disch := omega) only [spec_ValuesOk.l4, spec_ValuesOk.l4.b, if_neg, decide_eq_true_eq, Ev.s0 Kx, valsGo, if_true]
 | y :: ys, x, h, h0, hy, Kx, Kr => by
  obtain ⟨e1, e2, e3⟩ := drop_cons h h0
  refine Ev.suc.trans ?_
  simp (disch := omega) only [spec_ValuesOk.l4, spec_ValuesOk.l4.b, if_pos, decide_eq_true_eq, grd_dec2, e2, wrap64, specOk_ev (hy y List.mem_cons_self), Ev.iteI, Bool.not_eq_false', Bool.not_eq_true', decide_eq_true_eq, Ev.s1 Kr]
  rw [valsS_lp hl hb hw ys (x + 1) e3 (by omega) (fun b hb => hy b (List.mem_cons_of_mem _ hb)), Ev.s0 Kx, Ev.s1 Kr, valsGo]
  by_cases h2 : y.1 = (rd d x.toNat).2
  ·rw [if_pos h2, decide_eq_true h2, Bool.and_true]
   by_cases h1 : bitsOk y.1 y.2 = true
   ·rw [if_neg (by simp [h1]), h1, Bool.true_and]
   ·rw [if_pos (by simpa using h1)]; simp [h1]
  ·rw [if_neg h2, decide_eq_false h2]; simp
theorem valsOkS_ev {d : List tDecl} {v : List tBits} (hd : d.length ≤ 1099511627776) (hw : ∀ b ∈ v, Wd b.2) (R : Nat → Bool → Prop) :
  Ev (fun n => spec_ValuesOk.c n d v (R n)) ↔ Ev (fun n => R n (valsOk d v)) := by
 refine Ev.suc.trans ?_
 simp only [spec_ValuesOk.c, spec_ValuesOk.w, declsOkS_ev, Ev.iteI, Bool.not_eq_false', Bool.not_eq_true', decide_eq_false_iff_not, Ev.s1 R, valsOk, valsI]
 by_cases h : declsOk d = true
 ·rw [if_pos h, h, Bool.true_and]
  by_cases hl : v.length = d.length
  ·rw [if_neg (by omega), valsS_lp hl (by omega) hw v 0 rfl (by omega) hw (fun n => R (n + 1) true) (fun n => R (n + 1)), Ev.s1 R, Ev.s1 R, decide_eq_true hl, Bool.true_and]
   cases valsGo d v 0 <;> simp
  ·rw [if_pos (by omega), decide_eq_false hl, Bool.false_and]
 ·rw [if_neg h]; simp [h]
end Go.Vsi
end

section
set_option linter.unusedVariables false
set_option linter.unusedSimpArgs false
set_option synthInstance.maxSize 4096
namespace Go.Vsi
def varsGo (n : Nat) : List Int → Int → Bool
 | [], _ => true
 | v :: r, b => decide (b < v ∧ v ≤ (n : Int) - 1) && varsGo n r v
def mix (vars : List Int) : List tBits → List tBits → Int → List tBits
 | x :: a, y :: b, i => (if i ∈ vars then y else x) :: mix vars a b (i + 1)
 | _, _, _ => []
theorem mix_len {vars : List Int} : ∀ {a b : List tBits} {i : Int}, a.length = b.length → (mix vars a b i).length = a.length
 | [], [], _, _ => rfl
 | _ :: _, [], _, h => by simp at h
 | [], _ :: _, _, h => by simp at h
 | x :: a, y :: b, i, h => by rw [mix, List.length_cons, List.length_cons, mix_len (by simpa using h)]
theorem rd_cons0 {α : Type} [Inhabited α] (x : α) (l : List α) : rd (x :: l) 0 = x := rfl
theorem rd_consS {α : Type} [Inhabited α] (x : α) (l : List α) (k : Nat) : rd (x :: l) (k + 1) = rd l k := by simp [rd]
theorem mix_rd {vars : List Int} : ∀ {a b : List tBits} {i : Int} {k : Nat}, a.length = b.length → k < a.length → rd (mix vars a b i) k = if i + k ∈ vars then rd b k else rd a k
 | [], _, _, k, _, h => by simp at h
 | _ :: _, [], _, _, h, _ => by simp at h
 | x :: a, y :: b, i, 0, h, hk => by rw [mix, rd_cons0, rd_cons0, rd_cons0]; simp
 | x :: a, y :: b, i, k + 1, h, hk => by
  rw [mix, rd_consS, rd_consS, rd_consS, mix_rd (by simpa using h) (by simpa using hk)]
  have : i + 1 + (k : Int) = i + ((k + 1 : Nat) : Int) := by omega
  rw [this]
theorem varsS_lp {d : List tDecl} {a b : List tBits} {vars : List Int} (hv : vars.length ≤ 1099511627776) (hd : d.length ≤ 1099511627776) : ∀ (ys : List Int) (x : Int) (e : Int), vars.drop x.toNat = ys → 0 ≤ x → (x = 0 → e = -1) → (0 < x → e = rd vars (x - 1).toNat ∧ 0 ≤ e) → ∀ (Kx : Nat → List tDecl → List tBits → List tBits → List Int → List tBits → Prop) (Kr : Nat → Bool → List tBits → Prop),
  (Ev (fun n => spec_Merge.l5 n d a b vars [] x (Kx n) (Kr n)) ↔ if varsGo d.length ys e = true then Ev (fun n => Kx n d a b vars []) else Ev (fun n => Kr n false []))
 | [], x, e, h, h0, _, _, Kx, Kr => by
  have := drop_nil h h0
  refine Ev.suc.trans ?_
  simp (disch := omega) only [spec_Merge.l5, spec_Merge.l5.b, if_neg, decide_eq_true_eq, varsGo, if_true, Ev.s5 Kx]
 | y :: ys, x, e, h, h0, he, he', Kx, Kr => by
  obtain ⟨e1, e2, e3⟩ := drop_cons h h0
  refine Ev.suc.trans ?_
  simp (disch := omega) only [spec_Merge.l5, spec_Merge.l5.b, if_pos, decide_eq_true_eq, grd_dec2, e2, l1In_ev, Ev.iteI, Bool.not_eq_false', decide_eq_true_eq, wrap64, Ev.s2 Kr]
  by_cases hin : 0 ≤ y ∧ y ≤ (d.length : Int) - 1
  ·rw [if_pos hin]
   have ih := varsS_lp (d := d) (a := a) (b := b) hv hd ys (x + 1) y e3 (by omega) (by omega) (fun _ => ⟨by rw [show x + 1 - 1 = x by omega, e2], hin.1⟩) (fun n => Kx (n + 1)) (fun n => Kr (n + 1))
   simp only [Ev.s2 Kr, Ev.s5 Kx] at ih
   by_cases hx : x > 0
   ·rw [if_pos hx]
    obtain ⟨q1, q2⟩ := he' (by omega)
    rw [← q1]
    by_cases hle : y ≤ e
    ·rw [if_pos hle, varsGo, decide_eq_false (by omega)]; simp
    ·rw [if_neg hle, ih, varsGo, decide_eq_true (by omega), Bool.true_and]
   ·rw [if_neg hx, ih, varsGo, decide_eq_true (by have := he (by omega); omega), Bool.true_and]
  ·rw [if_neg hin, varsGo]
   have : ¬ (e < y ∧ y ≤ (d.length : Int) - 1) := by
    by_cases hx : x = 0
    ·have := he hx; omega
    ·have := (he' (by omega)).2; omega
   rw [decide_eq_false this]; simp
theorem mixS_lp {d : List tDecl} {a b : List tBits} {vars : List Int} (hv : vars.length ≤ 1099511627776) (hd : d.length ≤ 1048576) (hda : a.length = d.length) (hdb : b.length = d.length) : ∀ (ya yb : List tBits) (x : Int) (o : List tBits), a.drop x.toNat = ya → b.drop x.toNat = yb → 0 ≤ x → (o.length : Int) = x →
  (∀ z ∈ ya, z.2.length ≤ 1099511627776) → (∀ z ∈ yb, z.2.length ≤ 1099511627776) → ∀ (Kx : Nat → List tBits → Prop),
  (Ev (fun n => spec_Merge.l10 n d a b vars x o (Kx n)) ↔ Ev (fun n => Kx n (o ++ mix vars ya yb x)))
 | [], yb, x, o, h, h', h0, ho, ha, hb, Kx => by
  have := drop_nil h h0
  refine Ev.suc.trans ?_
  simp (disch := omega) only [spec_Merge.l10, spec_Merge.l10.b, if_neg, decide_eq_true_eq, mix, List.append_nil, Ev.s1 Kx]
 | y :: ya, [], x, o, h, h', h0, ho, ha, hb, Kx => by
  have := drop_nil h' h0; have := (drop_cons h h0).1; omega
 | y :: ya, z :: yb, x, o, h, h', h0, ho, ha, hb, Kx => by
  obtain ⟨e1, e2, e3⟩ := drop_cons h h0
  obtain ⟨f1, f2, f3⟩ := drop_cons h' h0
  have k1 := fun (n : Nat) => ha y List.mem_cons_self
  have c1 := fun R => copyBits_ev (a := y.1) (l := y.2) (ha y List.mem_cons_self) R
  have c2 := fun R => copyBits_ev (a := z.1) (l := z.2) (hb z List.mem_cons_self) R
  have hv' := fun R => has_ev (l := vars) (a := x) hv R
  have ih := fun v => mixS_lp (vars := vars) hv hd hda hdb ya yb (x + 1) (o ++ [v]) e3 f3 (by omega) (by simp; omega) (fun z hz => ha z (List.mem_cons_of_mem _ hz)) (fun z hz => hb z (List.mem_cons_of_mem _ hz)) (fun n => Kx (n + 1))
  refine Ev.suc.trans ?_
  simp (disch := (first | omega | (simp; omega))) only [spec_Merge.l10, spec_Merge.l10.b, spec_Merge.j3, if_pos, decide_eq_true_eq, grd_dec2, grd_dec, e2, f2, hv', c1, c2, Ev.iteI, wrap64]
  rw [mix, ih, ih]
  split
  ·rw [List.append_assoc]; exact Ev.s1 Kx _
  ·rw [List.append_assoc]; exact Ev.s1 Kx _
def mergeOk (d : List tDecl) (a b : List tBits) (vars : List Int) : Bool := valsOk d a && valsOk d b && varsGo d.length vars (-1)
theorem mergeS_ev {d : List tDecl} {a b : List tBits} {vars : List Int} (hv : vars.length ≤ 1099511627776) (hd : d.length ≤ 1048576) (ha : ∀ z ∈ a, Wd z.2 ∧ z.2.length ≤ 1099511627776) (hb : ∀ z ∈ b, Wd z.2 ∧ z.2.length ≤ 1099511627776) (R : Nat → List tBits → Bool → Prop) :
  Ev (fun n => spec_Merge.c n d a b vars (R n)) ↔ Ev (fun n => R n (if mergeOk d a b vars = true then mix vars a b 0 else []) (mergeOk d a b vars)) := by
 refine Ev.suc.trans ?_
 have v1 := fun R => valsOkS_ev (d := d) (v := a) (by omega) (fun z hz => (ha z hz).1) R
 have v2 := fun R => valsOkS_ev (d := d) (v := b) (by omega) (fun z hz => (hb z hz).1) R
 simp only [spec_Merge.c, spec_Merge.w, spec_Merge.j4, v1, v2, Ev.iteI, Bool.not_eq_false', Bool.not_eq_true', if_true, Ev.s2 R]
 by_cases h1 : valsOk d a = true
 ·rw [if_pos h1]
  by_cases h2 : valsOk d b = true
  ·rw [if_neg (by simp [h2])]
   have l1 : a.length = d.length := by rw [valsOk, valsI] at h1; simp at h1; exact h1.2.1
   have l2 : b.length = d.length := by rw [valsOk, valsI] at h2; simp at h2; exact h2.2.1
   rw [varsS_lp hv (by omega) vars 0 (-1) rfl (by omega) (fun _ => rfl) (fun h => by omega) (fun n y108 y109 y110 y111 y112 => spec_Merge.l10 n y108 y109 y110 y111 0 y112 (fun y114 => R (n + 1) y114 true)) (fun n y115 y116 => R (n + 1) y116 y115)]
   rw [mergeOk, h1, h2, Bool.true_and, Bool.true_and]
   by_cases h3 : varsGo d.length vars (-1) = true
   ·rw [if_pos h3, if_pos h3, h3, mixS_lp hv hd l1 l2 a b 0 [] rfl rfl (by omega) rfl (fun z hz => (ha z hz).2) (fun z hz => (hb z hz).2) (fun n y114 => R (n + 1) y114 true)]
    exact Ev.s2 R _ _
   ·rw [if_neg h3, if_neg h3, Bool.eq_false_iff.2 h3]; exact Ev.s2 R _ _
  ·have h2' := Bool.eq_false_iff.2 h2
   rw [if_pos h2', mergeOk, h2', Bool.and_false, Bool.false_and]; simp
 ·have h1' := Bool.eq_false_iff.2 h1
  rw [if_neg h1, mergeOk, h1', Bool.false_and, Bool.false_and]; simp
theorem cloneI_lp {d : List tDecl} {a b : List tBits} {vars : List Int} (hl : a.length ≤ 1048576) : ∀ (ya : List tBits) (x : Int) (z : List tBits), a.drop x.toNat = ya → 0 ≤ x → x.toNat + z.length = a.length → (∀ z ∈ ya, z.2.length ≤ 1099511627776) → ∀ (Kx : Nat → List tDecl → List tBits → List Int → List tBits → Prop),
  (Ev (fun n => impl_Merge.l5 n d b vars a a.length x (a.take x.toNat ++ z) (Kx n)) ↔ Ev (fun n => Kx n d b vars a))
 | [], x, z, h, h0, hz, ha, Kx => by
  have h1 := drop_nil h h0
  have : z = [] := List.eq_nil_of_length_eq_zero (by omega)
  subst this
  refine Ev.suc.trans ?_
  simp (disch := omega) only [impl_Merge.l5, impl_Merge.l5.b, if_neg, decide_eq_true_eq, List.append_nil, List.take_of_length_le (show a.length ≤ x.toNat by omega), Ev.s4 Kx]
 | y :: ya, x, z, h, h0, hz, ha, Kx => by
  obtain ⟨e1, e2, e3⟩ := drop_cons h h0
  have c1 := fun R => cloneBits_ev (a := y.1) (l := y.2) (ha y List.mem_cons_self) R
  cases z with
  | nil => simp at hz; omega
  | cons w z =>
   have hx : x.toNat = (a.take x.toNat).length := by rw [List.length_take]; omega
   have es : (a.take x.toNat ++ w :: z).set x.toNat y = a.take (x + 1).toNat ++ z := by
    have e : (x + 1).toNat = x.toNat + 1 := by omega
    have hget : a[x.toNat]'(by omega) = y := by
     have h4 := List.getElem?_eq_getElem (l := a) (i := x.toNat) (by omega)
     simp only [rd, List.getD_eq_getElem?_getD, h4, Option.getD_some] at e2; exact e2
    rw [e, List.take_succ_eq_append_getElem (by omega), hget]
    conv => lhs; rw [show x.toNat = (a.take x.toNat).length + 0 by omega]
    rw [List.set_append_right _ _ (by simp [← hx])]
    simp [← hx]
   have ih := cloneI_lp (d := d) (b := b) (vars := vars) hl ya (x + 1) z e3 (by omega) (by simp at hz; omega) (fun z hz => ha z (List.mem_cons_of_mem _ hz)) (fun n => Kx (n + 1))
   refine Ev.suc.trans ?_
   simp (disch := (first | omega | (simp; omega))) only [impl_Merge.l5, impl_Merge.l5.b, if_pos, decide_eq_true_eq, grd_dec2, e2, c1, wrap64, es]
   rw [ih]; exact Ev.s4 Kx _ _ _ _
def mixI (b : List tBits) (vars : List Int) (o : List tBits) : List tBits := vars.foldl (fun o v => o.set v.toNat (rd b v.toNat)) o
theorem varsI_lp {d : List tDecl} {b : List tBits} {vars : List Int} (hv : vars.length ≤ 1099511627776) (hdb : b.length = d.length) (hb : ∀ z ∈ b, z.2.length ≤ 1099511627776) : ∀ (ys : List Int) (x e : Int) (o : List tBits), vars.drop x.toNat = ys → 0 ≤ x → -1 ≤ e → o.length = d.length → ∀ (Kx : Nat → List tBits → Prop) (Kr : Nat → Bool → List tBits → Prop),
  (Ev (fun n => impl_Merge.l11 n d b vars vars.length e x o (Kx n) (Kr n)) ↔ if varsGo d.length ys e = true then Ev (fun n => Kx n (mixI b ys o)) else Ev (fun n => Kr n false []))
 | [], x, e, o, h, h0, he, ho, Kx, Kr => by
  have := drop_nil h h0
  refine Ev.suc.trans ?_
  simp (disch := omega) only [impl_Merge.l11, impl_Merge.l11.b, if_neg, decide_eq_true_eq, varsGo, if_true, mixI, List.foldl_nil, Ev.s1 Kx]
 | y :: ys, x, e, o, h, h0, he, ho, Kx, Kr => by
  obtain ⟨e1, e2, e3⟩ := drop_cons h h0
  refine Ev.suc.trans ?_
  simp (disch := omega) only [impl_Merge.l11, impl_Merge.l11.b, impl_Merge.j3, if_pos, decide_eq_true_eq, grd_dec2, e2, Ev.iteI, decide_eq_false_iff_not, wrap64, Ev.s2 Kr]
  by_cases hle : y ≤ e
  ·rw [if_neg (by omega), varsGo, decide_eq_false (by omega)]; simp
  ·rw [if_pos hle]
   by_cases hge : y ≥ (d.length : Int)
   ·rw [if_pos hge, varsGo, decide_eq_false (by omega)]; simp
   ·rw [if_neg hge]
    have c1 := fun R => cloneBits_ev (a := (rd b y.toNat).1) (l := (rd b y.toNat).2) (by
     have hy : y.toNat < b.length := by omega
     simp only [rd, List.getD_eq_getElem?_getD, List.getElem?_eq_getElem hy, Option.getD_some]
     exact hb _ (List.getElem_mem hy)) R
    have ih := varsI_lp hv hdb hb ys (x + 1) y (o.set y.toNat (rd b y.toNat)) e3 (by omega) (by omega) (by rw [List.length_set]; exact ho) (fun n => Kx (n + 1)) (fun n => Kr (n + 1))
    simp (disch := omega) only [grd_dec2, c1]
    rw [ih, varsGo, decide_eq_true (show e < y ∧ y ≤ (d.length : Int) - 1 by omega), Bool.true_and]
    simp only [mixI, List.foldl_cons, Ev.s1 Kx, Ev.s2 Kr]
theorem varsGo_in {n : Nat} : ∀ {l : List Int} {e : Int}, -1 ≤ e → varsGo n l e = true → ∀ v ∈ l, 0 ≤ v ∧ v < (n : Int)
 | [], _, _, _, v, hv => by cases hv
 | y :: l, e, he, h, v, hv => by
  rw [varsGo, Bool.and_eq_true, decide_eq_true_eq] at h
  rcases List.mem_cons.1 hv with rfl | hv
  ·omega
  ·exact varsGo_in (by omega) h.2 v hv
theorem mixI_len {b : List tBits} : ∀ {vars : List Int} {o : List tBits}, (mixI b vars o).length = o.length
 | [], o => rfl
 | v :: r, o => by rw [mixI, List.foldl_cons]; exact (mixI_len (vars := r)).trans List.length_set
theorem mixI_rd {b : List tBits} {k : Nat} : ∀ {vars : List Int} {o : List tBits}, k < o.length → (∀ v ∈ vars, 0 ≤ v) → rd (mixI b vars o) k = if (k : Int) ∈ vars then rd b k else rd o k
 | [], o, hk, _ => by simp [mixI]
 | v :: r, o, hk, hv => by
  rw [mixI, List.foldl_cons]
  have ih := mixI_rd (b := b) (k := k) (vars := r) (o := o.set v.toNat (rd b v.toNat)) (by rw [List.length_set]; exact hk) (fun z hz => hv z (List.mem_cons_of_mem _ hz))
  rw [mixI] at ih
  rw [ih]
  have hv0 := hv v List.mem_cons_self
  by_cases h1 : (k : Int) ∈ r
  ·rw [if_pos h1, if_pos (List.mem_cons_of_mem _ h1)]
  ·rw [if_neg h1]
   by_cases h2 : (k : Int) = v
   ·subst h2
    rw [if_pos List.mem_cons_self, Int.toNat_natCast, rd_set hk]
   ·rw [if_neg (by simp [h1, h2])]
    have : v.toNat ≠ k := by omega
    simp [rd, List.getD_eq_getElem?_getD, List.getElem?_set_ne this]
theorem list_rd_ext {α : Type} [Inhabited α] {a b : List α} (h : a.length = b.length) (h' : ∀ k, k < a.length → rd a k = rd b k) : a = b := by
 apply List.ext_getElem h
 intro k h1 h2
 have := h' k h1
 simpa [rd, List.getD_eq_getElem?_getD, h1, h2] using this
theorem mixI_eq {a b : List tBits} {vars : List Int} {n : Nat} (ha : a.length = n) (hb : b.length = n) (h : varsGo n vars (-1) = true) : mixI b vars a = mix vars a b 0 := by
 apply list_rd_ext
 ·rw [mixI_len, mix_len (by omega)]
 ·intro k hk
  rw [mixI_len] at hk
  rw [mixI_rd hk fun v hv => (varsGo_in (by omega) h v hv).1, mix_rd (by omega) hk, Int.zero_add]
theorem mergeI_ev {d : List tDecl} {a b : List tBits} {vars : List Int} (hv : vars.length ≤ 1099511627776) (hd : d.length ≤ 1048576) (hal : a.length ≤ 1048576) (ha : ∀ z ∈ a, Wd z.2 ∧ z.2.length ≤ 1099511627776) (hb : ∀ z ∈ b, Wd z.2 ∧ z.2.length ≤ 1099511627776) (R : Nat → List tBits → Bool → Prop) :
  Ev (fun n => impl_Merge.c n d a b vars (R n)) ↔ Ev (fun n => R n (if mergeOk d a b vars = true then mix vars a b 0 else []) (mergeOk d a b vars)) := by
 refine Ev.suc.trans ?_
 have v1 := fun R => valsOk_ev (d := d) (v := a) (by omega) R
 have v2 := fun R => valsI_ev (d := d) (v := b) (by omega) R
 simp only [impl_Merge.c, impl_Merge.w, impl_Merge.j4, v1, v2, Ev.iteI, Bool.not_eq_false', Bool.not_eq_true', if_true, Ev.s2 R]
 by_cases h1 : valsOk d a = true
 ·rw [if_pos h1]
  have hdo : declsOk d = true := by rw [valsOk, Bool.and_eq_true] at h1; exact h1.1
  have hvb : valsOk d b = valsI d b := by rw [valsOk, hdo, Bool.true_and]
  by_cases h2 : valsI d b = true
  ·rw [if_neg (by simp [h2])]
   have l1 : a.length = d.length := by rw [valsOk, valsI] at h1; simp at h1; exact h1.2.1
   have l2 : b.length = d.length := by rw [valsI] at h2; simp at h2; exact h2.1
   have hc := cloneI_lp (d := d) (a := a) (b := b) (vars := vars) hal a 0 (List.replicate a.length (0, [])) rfl (by omega) (by simp) (fun z hz => (ha z hz).2) (fun n y37 y38 y39 y40 => impl_Merge.l11 n y37 y38 y39 (y39.length : Int) (-1) 0 y40 (fun y102 => R (n + 1) y102 true) (fun y103 y104 => R (n + 1) y104 y103))
   simp only [Int.toNat_zero, List.take_zero, List.nil_append] at hc
   simp (disch := omega) only [grd_dec3, grd_dec2, decide_true, Bool.and_true, Int.toNat_natCast]
   rw [hc, varsI_lp hv l2 (fun z hz => (hb z hz).2) vars 0 (-1) a rfl (by omega) (by omega) l1 (fun n y102 => R (n + 1) y102 true) (fun n y103 y104 => R (n + 1) y104 y103)]
   rw [mergeOk, h1, hvb, h2, Bool.true_and, Bool.true_and]
   by_cases h3 : varsGo d.length vars (-1) = true
   ·rw [if_pos h3, if_pos h3, h3, mixI_eq l1 l2 h3]; exact Ev.s2 R _ _
   ·rw [if_neg h3, if_neg h3, Bool.eq_false_iff.2 h3]; exact Ev.s2 R _ _
  ·have h2' := Bool.eq_false_iff.2 h2
   rw [if_pos h2', mergeOk, hvb, h2', Bool.and_false, Bool.false_and]; simp
 ·have h1' := Bool.eq_false_iff.2 h1
  rw [if_neg h1, mergeOk, h1', Bool.false_and, Bool.false_and]; simp
end Go.Vsi
end

section
set_option linter.unusedVariables false
set_option linter.unusedSimpArgs false
namespace Go.Vsi
def Bytes (bs : List Int) : Prop := (∀ x ∈ bs, 0 ≤ x ∧ x < 256) ∧ (bs.length : Int) ≤ 4611686018427387904
def Pos (bs : List Int) (p : Int) : Prop := 0 ≤ p ∧ p ≤ (bs.length : Int)
theorem rd_in {bs : List Int} {P : Int → Prop} (h : ∀ x ∈ bs, P x) {i : Nat} (hi : i < bs.length) : P (rd bs i) := by
 simp only [rd, List.getD_eq_getElem?_getD, List.getElem?_eq_getElem hi, Option.getD_some]
 exact h _ (List.getElem_mem hi)
theorem big_wp {a : List Int} {R : Nat → Bool → Prop} (h : Ev fun n => R n (decide ((a.length : Int) > 1048576))) : Ev fun n => laws_big.c n a (R n) := by
 refine Ev.succ ?_; simp only [laws_big.c, laws_big.w]; exact h.shift
theorem open_wp {bs : List Int} {R : Nat → List Int → Int → Prop} (h : Ev fun n => R n bs 0) : Ev fun n => spec_l1Open.c n bs (R n) := by
 refine Ev.succ ?_; simp only [spec_l1Open.c, spec_l1Open.w]; exact h.shift
theorem next_wp {bs : List Int} {p : Int} {R : Nat → Int → List Int → Int → Prop} (hb : Bytes bs) (hp : Pos bs p) (h : ∀ r q, 0 ≤ r → r < 256 → Pos bs q → Ev (fun n => R n r bs q)) :
  Ev (fun n => spec_l1Rd_next.c n bs p (R n)) := by
 obtain ⟨hp0, hp1⟩ := hp
 have hl := hb.2
 refine Ev.succ ?_
 simp only [spec_l1Rd_next.c, spec_l1Rd_next.w]
 refine Ev.ite (fun hc => (h 0 p (by omega) (by omega) ⟨hp0, hp1⟩).shift) fun hc => ?_
 simp only [decide_eq_true_eq] at hc
 have hr := rd_in hb.1 (i := p.toNat) (by omega)
 simp (disch := omega) only [wrap64, Int.add_sub_cancel]
 exact Ev.grd (by simp; omega) (h _ _ hr.1 hr.2 ⟨by omega, by omega⟩).shift
theorem tmod_in {x m : Int} (hx : 0 ≤ x) (hm : 1 ≤ m) : 0 ≤ Int.tmod x m ∧ Int.tmod x m < m := by
 rw [tmodP hx]; exact ⟨Int.emod_nonneg _ (by omega), Int.emod_lt_of_pos _ (by omega)⟩
theorem below_wp {bs : List Int} {p m : Int} {R : Nat → Int → List Int → Int → Prop} (hb : Bytes bs) (hp : Pos bs p) (hm : 1 ≤ m) (h : ∀ r q, 0 ≤ r → r < m → Pos bs q → Ev (fun n => R n r bs q)) :
  Ev (fun n => spec_l1Rd_below.c n bs p m (R n)) := by
 refine Ev.succ ?_
 simp only [spec_l1Rd_below.c, spec_l1Rd_below.w]
 refine Ev.ite (fun hc => (h 0 p (by omega) (by omega) hp).shift) fun hc => Ev.ite (fun hc' => next_wp hb hp fun r q h1 h2 h3 => ?_) fun hc' => next_wp hb hp fun r q h1 h2 h3 => next_wp hb h3 fun r' q' h1' h2' h3' => ?_
 ·have := tmod_in (x := r) (m := m) h1 hm
  exact Ev.grd (by simp; omega) (h _ _ this.1 this.2 h3).shift
 ·simp (disch := omega) only [wrap64]
  have := tmod_in (x := r * 256 + r') (m := m) (by omega) hm
  exact Ev.grd (by simp; omega) (h _ _ this.1 this.2 h3').shift
theorem once_wp {bs : List Int} {p m : Int} {R : Nat → Bool → List Int → Int → Prop} (hb : Bytes bs) (hp : Pos bs p) (hm : 1 ≤ m) (h : ∀ r q, Pos bs q → Ev (fun n => R n r bs q)) :
  Ev (fun n => spec_l1Rd_once.c n bs p m (R n)) := by
 refine Ev.succ ?_
 simp only [spec_l1Rd_once.c, spec_l1Rd_once.w]
 exact below_wp hb hp hm fun r q _ _ h3 => (h _ q h3).shift
theorem wide_wp {bs : List Int} {p : Int} {R : Nat → Int → List Int → Int → Prop} (hb : Bytes bs) (hp : Pos bs p) (h : ∀ r q, 1 ≤ r → r ≤ 200 → Pos bs q → Ev (fun n => R n r bs q)) :
  Ev (fun n => spec_l1Rd_wide.c n bs p (R n)) := by
 refine Ev.succ ?_
 simp only [spec_l1Rd_wide.c, spec_l1Rd_wide.w]
 refine below_wp hb hp (by omega) fun r q h1 h2 h3 => Ev.ite (fun hc => below_wp hb h3 (by omega) fun r' q' h1' h2' h3' => ?_) fun hc => Ev.ite (fun hc' => below_wp hb h3 (by omega) fun r' q' h1' h2' h3' => ?_) fun hc' => below_wp hb h3 (by omega) fun r' q' h1' h2' h3' => ?_
 ·have hr : 1 ≤ rd ([63, 64, 65, 127, 128, 129, 200] : List Int) r'.toNat ∧ rd ([63, 64, 65, 127, 128, 129, 200] : List Int) r'.toNat ≤ 200 :=
   rd_in (P := fun x => 1 ≤ x ∧ x ≤ 200) (by decide) (by simp; omega)
  exact Ev.grd (by simp; omega) (h _ _ hr.1 hr.2 h3').shift
 ·simp (disch := omega) only [wrap64]; exact (h _ _ (by omega) (by omega) h3').shift
 ·simp (disch := omega) only [wrap64]; exact (h _ _ (by omega) (by omega) h3').shift
theorem word_lp_wp {bs : List Int} (hb : Bytes bs) : ∀ (m : Nat) (x4 : Int), x4 + m = 8 → 0 ≤ x4 → ∀ (x3 p : Int), 0 ≤ x3 → x3 < 18446744073709551616 → Pos bs p → ∀ R : Nat → Int → List Int → Int → Prop,
  (∀ r q, 0 ≤ r → r < 18446744073709551616 → Pos bs q → Ev (fun n => R n r bs q)) → Ev (fun n => spec_l1Rd_word.l3 n x3 x4 bs p (R n))
 | 0, x4, h, h0, x3, p, h3, h3', hp, R, hR => by
  refine Ev.succ ?_
  simp only [spec_l1Rd_word.l3, spec_l1Rd_word.l3.b]
  exact Ev.neg (by simp; omega) (hR _ _ h3 h3' hp).shift
 | m + 1, x4, h, h0, x3, p, h3, h3', hp, R, hR => by
  refine Ev.succ ?_
  simp only [spec_l1Rd_word.l3, spec_l1Rd_word.l3.b]
  refine Ev.pos (by simp; omega) (next_wp hb hp fun r q h1 h2 hq => ?_)
  rw [wrap64 (by omega) (by omega)]
  have := ibitsU .or (IntKind.wrap .u64 (x3 * 2 ^ 8)) (IntKind.wrap .u64 r)
  exact word_lp_wp hb m (x4 + 1) (by omega) (by omega) _ q this.1 this.2 hq (fun n => R (n + 1)) fun r q h1 h2 hq => (hR r q h1 h2 hq).shift
theorem word_wp {bs : List Int} {p : Int} {R : Nat → Int → List Int → Int → Prop} (hb : Bytes bs) (hp : Pos bs p) (h : ∀ r q, 0 ≤ r → r < 18446744073709551616 → Pos bs q → Ev (fun n => R n r bs q)) :
  Ev (fun n => spec_l1Rd_word.c n bs p (R n)) := by
 refine Ev.succ ?_
 simp only [spec_l1Rd_word.c, spec_l1Rd_word.w]
 exact word_lp_wp hb 8 0 (by omega) (by omega) 0 p (by omega) (by omega) hp (fun n => R (n + 1)) fun r q h1 h2 hq => (h r q h1 h2 hq).shift
theorem wrapW (x : Int) : IntKind.wrap .u64 (IntKind.wrap .i64 x) = x % 18446744073709551616 := by
 simp only [IntKind.wrap, IntKind.bits, IntKind.signed]
 simp; split <;> omega
def In64 (r : Int) : Prop := -9223372036854775808 ≤ r ∧ r < 9223372036854775808
theorem near_wp {bs : List Int} {p a b : Int} {R : Nat → Int → List Int → Int → Prop} (hb : Bytes bs) (hp : Pos bs p) (ha : In64 a) (hbb : In64 b) (hab : b - a < 9223372036854775808)
  (h : ∀ r q, In64 r → (a ≤ b → a ≤ r ∧ r ≤ b) → Pos bs q → Ev (fun n => R n r bs q)) : Ev (fun n => spec_l1Rd_near.c n bs p a b (R n)) := by
 obtain ⟨a1, a2⟩ := ha; obtain ⟨b1, b2⟩ := hbb
 refine Ev.succ ?_
 simp only [spec_l1Rd_near.c, spec_l1Rd_near.w]
 refine below_wp hb hp (by omega) fun r q h1 h2 h3 => Ev.ite (fun hc => (h a q ⟨a1, a2⟩ (fun _ => by omega) h3).shift) fun hc => Ev.ite (fun hc => (h b q ⟨b1, b2⟩ (fun _ => by omega) h3).shift) fun hc' =>
  Ev.ite (fun hc => (h a q ⟨a1, a2⟩ (fun _ => by omega) h3).shift) fun hc'' => word_wp hb h3 fun w q' w1 w2 h3' => ?_
 simp only [decide_eq_true_eq] at hc''
 rw [wrap64 (x := b - a) (by omega) (by omega), wrapW]
 have e : (b - a + 1) % 18446744073709551616 = b - a + 1 := by omega
 rw [e]
 have hd : 0 ≤ Int.fdiv w (2 ^ 1) := by rw [fdivP (by decide)]; omega
 have ht := tmod_in (x := Int.fdiv w (2 ^ 1)) (m := b - a + 1) hd (by omega)
 generalize Int.tmod (Int.fdiv w (2 ^ 1)) (b - a + 1) = t at ht ⊢
 rw [wrap64 (x := t) (by omega) (by omega), wrap64 (x := a + t) (by omega) (by omega)]
 exact Ev.grd (by simp; omega) (h _ _ ⟨by omega, by omega⟩ (fun _ => by omega) h3').shift
theorem off_wp {bs : List Int} {p a b : Int} {R : Nat → Int → List Int → Int → Prop} (hb : Bytes bs) (hp : Pos bs p) (ha : In64 a) (hbb : In64 b) (hab : b - a < 9223372036854775808)
  (h : ∀ r q, In64 r → Pos bs q → Ev (fun n => R n r bs q)) : Ev (fun n => spec_l1Rd_off.c n bs p a b (R n)) := by
 refine Ev.succ ?_
 simp only [spec_l1Rd_off.c, spec_l1Rd_off.w]
 refine once_wp hb hp (by omega) fun o q hq => Ev.ite (fun hc => below_wp hb hq (by omega) fun r q' h1 h2 hq' => ?_) fun hc => near_wp hb hq ha hbb hab fun r q' h1 _ hq' => (h r q' h1 hq').shift
 refine Ev.grd (by simp; omega) (h _ _ ?_ hq').shift
 refine rd_in (P := In64) ?_ (by simp; omega)
 intro x hx
 simp only [List.mem_cons, List.not_mem_nil, or_false] at hx
 rcases hx with rfl | rfl | rfl | rfl
 ·exact wrap64r _
 ·exact wrap64r _
 ·exact ⟨by omega, by omega⟩
 ·exact ⟨by omega, by omega⟩
theorem Wd.set {ws : List Int} (h : Wd ws) {i : Nat} {x : Int} (h0 : 0 ≤ x) (h1 : x < 18446744073709551616) : Wd (ws.set i x) := by
 intro y hy
 rcases List.mem_or_eq_of_mem_set hy with h' | rfl
 ·exact h y h'
 ·exact ⟨h0, by omega⟩
theorem Wd.rep (n : Nat) : Wd (List.replicate n 0) := by
 intro y hy
 rw [List.eq_of_mem_replicate hy]; omega
theorem from_lp_wp {l : List Int} (hl : l.length ≤ 4096) (x7 : List Int) (x8 x9 : Int) : ∀ (m : Nat) (x5 : Int), x5 + m = l.length → 0 ≤ x5 → ∀ (ws : List Int), ws.length = (l.length + 63) / 64 → Wd ws →
  ∀ R : Nat → List Int → List Int → Int → Int → Prop, (∀ ws', ws'.length = (l.length + 63) / 64 → Wd ws' → Ev (fun n => R n ws' x7 x8 x9)) → Ev (fun n => spec_l1From.l5 n l x7 x8 x9 x5 ws (R n))
 | 0, x5, h, h0, ws, hw, hu, R, hR => by
  refine Ev.succ ?_
  simp only [spec_l1From.l5, spec_l1From.l5.b]
  exact Ev.neg (by simp; omega) (hR ws hw hu).shift
 | m + 1, x5, h, h0, ws, hw, hu, R, hR => by
  refine Ev.succ ?_
  simp only [spec_l1From.l5, spec_l1From.l5.b]
  refine Ev.pos (by simp; omega) ?_
  rw [tdivP h0, tmodP h0, wrap64 (x := x5 / 64) (by omega) (by omega), wrapU (x := x5 % 64) (by omega) (by omega), wrap64 (x := x5 + 1) (by omega) (by omega)]
  refine Ev.grd (by simp; omega) (Ev.grd (by simp; omega) (Ev.grd (by simp; omega) (Ev.grd (by simp; omega) ?_)))
  have i := ibitsU .or (rd ws (Int.toNat (x5 / 64))) (IntKind.wrap .u64 ((IntKind.wrap .u64 (rd l (Int.toNat x5))) * 2 ^ (Nat.min (Int.toNat (x5 % 64)) 64)))
  exact from_lp_wp hl x7 x8 x9 m (x5 + 1) (by omega) (by omega) _ (by rw [List.length_set]; exact hw) (hu.set i.1 i.2) (fun n => R (n + 1)) fun ws' h1 h2 => (hR ws' h1 h2).shift
theorem from_wp {l : List Int} {R : Nat → Int → List Int → Bool → Prop} (h1 : 1 ≤ l.length) (h2 : l.length ≤ 4096) (h : ∀ ws, ws.length = (l.length + 63) / 64 → Wd ws → Ev (fun n => R n l.length ws true)) :
  Ev (fun n => spec_l1From.c n l (R n)) := by
 refine Ev.succ ?_
 simp only [spec_l1From.c, spec_l1From.w, spec_l1From.j0]
 refine Ev.pos (by simp; omega) (Ev.neg (by simp; omega) ?_)
 have e : IntKind.wrap .i64 (Int.tdiv (IntKind.wrap .i64 ((l.length : Int) + 63)) 64) = (((l.length + 63) / 64 : Nat) : Int) := by
  rw [wrap64 (x := (l.length : Int) + 63) (by omega) (by omega), tdivP (by omega), wrap64 (by omega) (by omega)]; omega
 rw [e]
 refine Ev.grd (by simp; omega) ?_
 rw [Int.toNat_natCast]
 exact from_lp_wp h2 _ _ _ l.length 0 (by omega) (by omega) _ (by simp) (Wd.rep _) (fun n y22 y23 y24 y25 => R (n + 1) y25 y22 true) fun ws h3 h4 => (h ws h3 h4).shift
theorem bits_lp_wp {x10 x11 x12 x17 x18 : Int} {x15 x16 : List Int} (h10 : x10 ≤ 4096) : ∀ (m : Nat) (x13 : Int), x13 + m = x10 → 0 ≤ x13 → ∀ l : List Int, (l.length : Int) = x13 →
  ∀ R : Nat → List Int → List Int → List Int → Int → Int → Prop, (∀ l' : List Int, (l'.length : Int) = x10 → Ev (fun n => R n l' x15 x16 x17 x18)) → Ev (fun n => spec_l1Rd_bits.l5 n x10 x11 x12 x15 x16 x17 x18 x13 l (R n))
 | 0, x13, h, h0, l, hl, R, hR => by
  refine Ev.succ ?_
  simp only [spec_l1Rd_bits.l5, spec_l1Rd_bits.l5.b]
  exact Ev.neg (by simp; omega) (hR l (by omega)).shift
 | m + 1, x13, h, h0, l, hl, R, hR => by
  have e : ∀ v : Int, Ev (fun n => spec_l1Rd_bits.l5 n x10 x11 x12 x15 x16 x17 x18 (x13 + 1) (l ++ [v]) (R (n + 1))) :=
   fun v => bits_lp_wp h10 m (x13 + 1) (by omega) (by omega) (l ++ [v]) (by simp; omega) (fun n => R (n + 1)) fun l' h' => (hR l' h').shift
  refine Ev.succ ?_
  simp only [spec_l1Rd_bits.l5, spec_l1Rd_bits.l5.b, spec_l1Rd_bits.j4]
  rw [wrap64 (x := x13 * 7) (by omega) (by omega), tmodP (by omega), wrapU (by omega) (by omega), wrap64 (x := x13 + 1) (by omega) (by omega)]
  refine Ev.pos (by simp; omega) (Ev.grd (by simp; omega) (Ev.ite (fun _ => Ev.ite (fun _ => ?_) fun _ => ?_) fun _ => Ev.ite (fun _ => ?_) fun _ => ?_))
  all_goals exact Ev.grd (by simp; omega) (e _)
theorem bits_wp {bs : List Int} {p m : Int} {R : Nat → Int → List Int → List Int → Int → Prop} (hb : Bytes bs) (hp : Pos bs p) (h1 : 1 ≤ m) (h2 : m ≤ 4096)
  (h : ∀ ws q, (ws.length : Int) = (m + 63) / 64 → Wd ws → Pos bs q → Ev (fun n => R n m ws bs q)) : Ev (fun n => spec_l1Rd_bits.c n bs p m (R n)) := by
 refine Ev.succ ?_
 simp only [spec_l1Rd_bits.c, spec_l1Rd_bits.w]
 refine word_wp hb hp fun w q _ _ hq => below_wp hb hq (by omega) fun r q' _ _ hq' => bits_lp_wp h2 m.toNat 0 (by omega) (by omega) [] rfl (fun n y33 y34 y35 y36 y37 => spec_l1From.c n y33 (fun r38 r39 r40 => R (n + 1) r38 r39 y35 y36)) fun l hl => ?_
 refine from_wp (by omega) (by omega) fun ws h3 h4 => ?_
 rw [hl]
 exact (h ws q' (by omega) h4 hq').shift
def DBits (b : tBits) : Prop := In64 b.1 ∧ Wd b.2 ∧ (b.2.length : Int) ≤ 4096
theorem oddBits_wp {bs : List Int} {p : Int} {R : Nat → Int → List Int → List Int → Int → Prop} (hb : Bytes bs) (hp : Pos bs p)
  (h : ∀ w ws q, DBits (w, ws) → Pos bs q → Ev (fun n => R n w ws bs q)) : Ev (fun n => spec_l1Rd_oddBits.c n bs p (R n)) := by
 refine Ev.succ ?_
 simp only [spec_l1Rd_oddBits.c, spec_l1Rd_oddBits.w, and_self]
 refine wide_wp hb hp fun w q w1 w2 hq => bits_wp hb hq w1 (by omega) fun ws q1 hl hw hq1 => below_wp hb hq1 (by omega) fun r q2 _ _ hq2 => Ev.ite (fun _ => ?_) fun _ => Ev.ite (fun _ => ?_) fun _ => Ev.ite (fun _ => ?_) fun _ => Ev.ite (fun _ => ?_) fun _ => Ev.ite (fun _ => ?_) fun _ => ?_
 ·rw [wrap64 (by omega) (by omega)]
  exact (h _ _ q2 ⟨⟨by show _ ≤ w + 1; omega, by show w + 1 < _; omega⟩, hw, by show (ws.length : Int) ≤ _; omega⟩ hq2).shift
 ·refine Ev.grd (by simp; omega) (h _ _ q2 ⟨⟨by show _ ≤ w; omega, by show w < _; omega⟩, ?_, by simp; omega⟩ hq2).shift
  intro x hx
  rcases List.mem_append.mp hx with hx | hx
  ·exact hw x hx
  ·rw [List.mem_singleton.mp hx]; omega
 ·rw [wrap64 (x := (ws.length : Int) - 1) (by omega) (by omega)]
  exact word_wp hb hq2 fun y q3 y1 y2 hq3 => Ev.grd (by simp; omega) (h _ _ q3 ⟨⟨by show _ ≤ w; omega, by show w < _; omega⟩, hw.set y1 y2, by simp; omega⟩ hq3).shift
 ·exact off_wp hb hq2 ⟨by omega, by omega⟩ ⟨by omega, by omega⟩ (by omega) fun y q3 hy hq3 => (h _ _ q3 ⟨hy, hw, by show (ws.length : Int) ≤ _; omega⟩ hq3).shift
 ·refine below_wp hb hq2 (by omega) fun y q3 y1 y2 hq3 => ?_
  rw [wrap64 (by omega) (by omega)]
  exact (h _ _ q3 ⟨⟨by show _ ≤ 4096 + y; omega, by show 4096 + y < _; omega⟩, Wd.rep _, by simp⟩ hq3).shift
 ·exact (h _ _ q2 ⟨⟨by show _ ≤ w; omega, by show w < _; omega⟩, hw, by show (ws.length : Int) ≤ _; omega⟩ hq2).shift
end Go.Vsi
end

section
set_option linter.unusedVariables false
set_option linter.unusedSimpArgs false
namespace Go.Vsi
def DDecls (d : List tDecl) : Prop := 1 ≤ d.length ∧ d.length ≤ 7 ∧ ∀ x ∈ d, 1 ≤ x.2 ∧ x.2 ≤ 200
theorem decls_lp_wp {bs : List Int} (hb : Bytes bs) : ∀ (m : Nat) (x : Int), x = m → ∀ (acc : List tDecl) (p : Int), acc.length + m ≤ 7 → (∀ x ∈ acc, 1 ≤ x.2 ∧ x.2 ≤ 200) → Pos bs p → ∀ R : Nat → List tDecl → List Int → Int → Prop,
  (∀ d q, d.length = acc.length + m → (∀ x ∈ d, 1 ≤ x.2 ∧ x.2 ≤ 200) → Pos bs q → Ev (fun n => R n d bs q)) → Ev (fun n => spec_l1Rd_decls.l3 n x acc bs p (R n))
 | 0, x, hx, acc, p, hl, ha, hp, R, hR => by
  refine Ev.succ ?_
  simp only [spec_l1Rd_decls.l3, spec_l1Rd_decls.l3.b]
  exact Ev.neg (by simp; omega) (hR acc p (by omega) ha hp).shift
 | m + 1, x, hx, acc, p, hl, ha, hp, R, hR => by
  have key : ∀ (nm : List UInt8) (w q : Int), 1 ≤ w → w ≤ 200 → Pos bs q → Ev (fun n => spec_l1Rd_decls.l3 n m (acc ++ [(nm, w)]) bs q (R (n + 1))) := fun nm w q h1 h2 hq =>
   decls_lp_wp hb m m rfl (acc ++ [(nm, w)]) q (by simp; omega) (fun x hx => by
    rcases List.mem_append.1 hx with hx | hx
    ·exact ha x hx
    ·rw [List.mem_singleton.1 hx]; exact ⟨h1, h2⟩) hq (fun n => R (n + 1)) fun d q h1 h2 h3 => (hR d q (by rw [h1, List.length_append, List.length_singleton]; omega) h2 h3).shift
  have e : IntKind.wrap .i64 (x - 1) = (m : Int) := by rw [wrap64] <;> omega
  refine Ev.succ ?_
  simp only [spec_l1Rd_decls.l3, spec_l1Rd_decls.l3.b, spec_l1Rd_decls.j3, e]
  refine Ev.pos (by simp; omega) (below_wp hb hp (by omega) fun r q h1 h2 hq => once_wp hb hq (by omega) fun o q1 hq1 => Ev.ite (fun _ => wide_wp hb hq1 fun w q2 w1 w2 hq2 => ?_) fun _ => ?_)
  ·exact Ev.grd (by simp; omega) (key _ _ _ w1 w2 hq2)
  ·rw [wrap64 (x := 1 + r) (by omega) (by omega)]
   exact Ev.grd (by simp; omega) (key _ _ _ (by omega) (by omega) hq1)
theorem decls_wp {bs : List Int} {p : Int} {R : Nat → List tDecl → List Int → Int → Prop} (hb : Bytes bs) (hp : Pos bs p) (h : ∀ d q, DDecls d → Pos bs q → Ev (fun n => R n d bs q)) :
  Ev (fun n => spec_l1Rd_decls.c n bs p (R n)) := by
 have hl := hb.2
 refine Ev.succ ?_
 simp only [spec_l1Rd_decls.c, spec_l1Rd_decls.w]
 rw [tdivP (by omega), wrap64 (x := (bs.length : Int) / 10) (by omega) (by omega), wrap64 (x := 2 + (bs.length : Int) / 10) (by omega) (by omega)]
 refine below_wp hb hp (by split <;> omega) fun r q h1 h2 hq => ?_
 have hr : r ≤ 5 := by split at h2 <;> omega
 rw [wrap64 (x := 1 + r) (by omega) (by omega)]
 exact decls_lp_wp hb (1 + r).toNat (1 + r) (by omega) [] q (by simp; omega) (fun x hx => by cases hx) hq (fun n => R (n + 1)) fun d q' h3 h4 hq' => (h d q' ⟨by simp at h3; omega, by simp at h3; omega, h4⟩ hq').shift
def DVals (v : List tBits) : Prop := v.length ≤ 7 ∧ ∀ b ∈ v, DBits b
theorem rd_memL {α : Type} [Inhabited α] {l : List α} {P : α → Prop} (h : ∀ x ∈ l, P x) {i : Nat} (hi : i < l.length) : P (rd l i) := by
 simp only [rd, List.getD_eq_getElem?_getD, List.getElem?_eq_getElem hi, Option.getD_some]
 exact h _ (List.getElem_mem hi)
theorem mem_setL {α : Type} {l : List α} {P : α → Prop} (h : ∀ x ∈ l, P x) {i : Nat} {y : α} (hy : P y) : ∀ x ∈ l.set i y, P x := fun x hx => by
 rcases List.mem_or_eq_of_mem_set hx with h' | rfl
 ·exact h x h'
 ·exact hy
theorem mem_appL {α : Type} {l r : List α} {P : α → Prop} (h : ∀ x ∈ l, P x) (h' : ∀ x ∈ r, P x) : ∀ x ∈ l ++ r, P x := fun x hx => (List.mem_append.1 hx).elim (h x) (h' x)
theorem mem_oneL {α : Type} {y : α} {P : α → Prop} (h : P y) : ∀ x ∈ [y], P x := fun x hx => by rw [List.mem_singleton.1 hx]; exact h
theorem values_lp_wp {bs : List Int} (hb : Bytes bs) {d : List tDecl} (hd : d.length ≤ 7) : ∀ (m : Nat) (x : Int), x + m = d.length → 0 ≤ x → ∀ (acc : List tBits) (p : Int), (acc.length : Int) = x → (∀ b ∈ acc, DBits b ∧ 1 ≤ b.2.length) → Pos bs p → ∀ R : Nat → List tBits → List Int → Int → Prop,
  (∀ v q, v.length = d.length → (∀ b ∈ v, DBits b ∧ 1 ≤ b.2.length) → Pos bs q → Ev (fun n => R n v bs q)) → Ev (fun n => spec_l1Rd_values.l3 n d x acc bs p (R n))
 | 0, x, hx, h0, acc, p, hl, ha, hp, R, hR => by
  refine Ev.succ ?_
  simp only [spec_l1Rd_values.l3, spec_l1Rd_values.l3.b]
  exact Ev.neg (by simp; omega) (hR acc p (by omega) ha hp).shift
 | m + 1, x, hx, h0, acc, p, hl, ha, hp, R, hR => by
  refine Ev.succ ?_
  simp only [spec_l1Rd_values.l3, spec_l1Rd_values.l3.b]
  refine Ev.pos (by simp; omega) (Ev.grd (by simp; omega) ?_)
  have hm : ∀ t : Int, 1 ≤ (if (if 4096 < t then 4096 else t) > 1 then (if 4096 < t then 4096 else t) else 1) ∧ (if (if 4096 < t then 4096 else t) > 1 then (if 4096 < t then 4096 else t) else 1) ≤ 4096 := fun t => by
   split <;> split <;> omega
  have hmm := hm (rd d x.toNat).2
  generalize (if (if 4096 < (rd d x.toNat).2 then 4096 else (rd d x.toNat).2) > 1 then (if 4096 < (rd d x.toNat).2 then 4096 else (rd d x.toNat).2) else 1) = w at hmm ⊢
  refine bits_wp hb hp hmm.1 hmm.2 fun ws q h1 h2 hq => Ev.grd (by simp; omega) ?_
  rw [wrap64 (by omega) (by omega)]
  exact values_lp_wp hb hd m (x + 1) (by omega) (by omega) (acc ++ [(w, ws)]) q (by simp; omega) (mem_appL ha (mem_oneL ⟨⟨⟨by show _ ≤ w; omega, by show w < _; omega⟩, h2, by show (ws.length : Int) ≤ _; omega⟩, by show 1 ≤ ws.length; omega⟩)) hq (fun n => R (n + 1)) fun v q h3 h4 h5 => (hR v q h3 h4 h5).shift
theorem values_wp {bs : List Int} {p : Int} {d : List tDecl} {R : Nat → List tBits → List Int → Int → Prop} (hb : Bytes bs) (hp : Pos bs p) (h1 : 1 ≤ d.length) (h7 : d.length ≤ 7) (h : ∀ v q, DVals v → Pos bs q → Ev (fun n => R n v bs q)) :
  Ev (fun n => spec_l1Rd_values.c n bs p d (R n)) := by
 refine Ev.succ ?_
 simp only [spec_l1Rd_values.c, spec_l1Rd_values.w, and_self]
 refine values_lp_wp hb h7 d.length 0 (by omega) (by omega) [] p rfl (fun b hb => by cases hb) hp (fun n y41 y42 y43 => spec_l1Rd_below.c n y42 y43 40 _) fun v q hl hv hq => ?_
 have hv1 : ∀ b ∈ v, DBits b := fun b hb => (hv b hb).1
 refine below_wp hb hq (by omega) fun r q1 _ _ hq1 => Ev.ite (fun _ => below_wp hb hq1 (by omega) fun i q2 i1 i2 hq2 => ?_) fun _ => Ev.ite (fun _ => ?_) fun _ => Ev.ite (fun _ => oddBits_wp hb hq1 fun w ws q2 hw hq2 => ?_) fun _ => ?_
 ·have hi := rd_memL (P := fun b : tBits => DBits b ∧ 1 ≤ b.2.length) hv (i := i.toNat) (by omega)
  refine Ev.grd (by simp; omega) (word_wp hb hq2 fun y q3 y1 y2 hq3 => Ev.grd (by simp; omega) (h _ _ ⟨by simp; omega, mem_setL (y := ((rd v i.toNat).1, List.set (rd v i.toNat).2 0 y)) hv1 ⟨hi.1.1, hi.1.2.1.set y1 y2, by simpa using hi.1.2.2⟩⟩ hq3).shift)
 ·refine Ev.grd (by simp; omega) (h _ _ ⟨by simp; omega, fun b hb => hv1 b (List.mem_of_mem_take (List.mem_of_mem_drop hb))⟩ hq1).shift
 ·refine Ev.grd (by simp; omega) (h _ _ ⟨by simp; omega, mem_setL hv1 hw⟩ hq2).shift
 ·exact (h _ _ ⟨by omega, hv1⟩ hq1).shift
end Go.Vsi
end

section
set_option linter.unusedVariables false
set_option linter.unusedSimpArgs false
set_option synthInstance.maxSize 4096
namespace Go.Vsi
theorem sameL_lp {a b : Int} {l l' : List Int} (hl : l.length ≤ 1099511627776) (hll : l.length = l'.length) : ∀ (ys ys' : List Int) (x : Int), l.drop x.toNat = ys → l'.drop x.toNat = ys' → 0 ≤ x → ∀ (Kx : Nat → Prop) (Kr : Nat → Bool → Prop),
  (Ev (fun n => laws_sameBits.l4 n a l b l' x (Kx n) (Kr n)) ↔ if ys = ys' then Ev Kx else Ev (fun n => Kr n false))
 | [], [], x, h, h', h0, Kx, Kr => by
  have := drop_nil h h0
  refine Ev.suc.trans ?_
  simp (disch := omega) only [laws_sameBits.l4, laws_sameBits.l4.b, if_neg, decide_eq_true_eq, Ev.s0 Kx, if_true]
 | [], y' :: ys', x, h, h', h0, Kx, Kr => by
  have := drop_nil h h0; have := (drop_cons h' h0).1; omega
 | y :: ys, [], x, h, h', h0, Kx, Kr => by
  have := drop_nil h' h0; have := (drop_cons h h0).1; omega
 | y :: ys, y' :: ys', x, h, h', h0, Kx, Kr => by
  obtain ⟨e1, e2, e3⟩ := drop_cons h h0
  obtain ⟨_, f2, f3⟩ := drop_cons h' h0
  refine Ev.suc.trans ?_
  simp (disch := omega) only [laws_sameBits.l4, laws_sameBits.l4.b, if_pos, decide_eq_true_eq, Ev.s0 Kx, Ev.s1 Kr, grd_dec2, e2, f2, wrap64, Ev.iteI, Bool.not_eq_true', decide_eq_false_iff_not]
  rw [sameL_lp hl hll ys ys' (x + 1) e3 f3 (by omega), Ev.s0 Kx, Ev.s1 Kr]
  simp only [List.cons.injEq]
  (repeat' split) <;> first | rfl | (exfalso; simp_all; done)
theorem sameL_ev {a b : Int} {l l' : List Int} (hl : l.length ≤ 1099511627776) (R : Nat → Bool → Prop) :
  Ev (fun n => laws_sameBits.c n a l b l' (R n)) ↔ Ev (fun n => R n (decide (a = b ∧ l = l'))) := by
 refine Ev.suc.trans ?_
 simp (disch := omega) only [laws_sameBits.c, laws_sameBits.w, Ev.iteI, Bool.not_eq_true', Bool.not_eq_false', decide_eq_true_eq, decide_eq_false_iff_not, Ev.s1 R]
 split
 ·split
  ·rw [decide_eq_false]; rintro ⟨_, e⟩; subst e; omega
  ·rw [sameL_lp hl (by omega) l l' 0 rfl rfl (by omega), Ev.s1 R, Ev.s1 R]
   split
   ·rw [decide_eq_true ⟨‹_›, ‹_›⟩]
   ·rw [decide_eq_false]; simp_all
 ·rw [decide_eq_false]; simp_all
end Go.Vsi
end

section
set_option linter.unusedVariables false
set_option linter.unusedSimpArgs false
set_option synthInstance.maxSize 4096
namespace Go.Vsi
theorem hasL_lp {l : List Int} {a : Int} (hl : l.length ≤ 1099511627776) : ∀ (ys : List Int) (x : Int), l.drop x.toNat = ys → 0 ≤ x → ∀ (Kx : Nat → Prop) (Kr : Nat → Bool → Prop),
  (Ev (fun n => laws_has.l2 n l a x (Kx n) (Kr n)) ↔ if a ∈ ys then Ev (fun n => Kr n true) else Ev Kx)
 | [], x, h, h0, Kx, Kr => by
  have := drop_nil h h0
  refine Ev.suc.trans ?_
  simp (disch := omega) only [laws_has.l2, laws_has.l2.b, if_neg, decide_eq_true_eq, Ev.s0 Kx, List.not_mem_nil, if_false]
 | y :: ys, x, h, h0, Kx, Kr => by
  obtain ⟨e1, e2, e3⟩ := drop_cons h h0
  refine Ev.suc.trans ?_
  simp (disch := omega) only [laws_has.l2, laws_has.l2.b, if_pos, decide_eq_true_eq, grd_dec2, e2, wrap64, Ev.iteI, Ev.s1 Kr]
  rw [hasL_lp hl ys (x + 1) e3 (by omega), Ev.s0 Kx, Ev.s1 Kr]
  by_cases hy : y = a
  ·subst hy; simp
  ·rw [if_neg hy]
   have : a ∈ y :: ys ↔ a ∈ ys := by simp [Ne.symm hy]
   simp only [this]
theorem hasL_ev {l : List Int} {a : Int} (hl : l.length ≤ 1099511627776) (R : Nat → Bool → Prop) :
  Ev (fun n => laws_has.c n l a (R n)) ↔ Ev (fun n => R n (decide (a ∈ l))) := by
 refine Ev.suc.trans ?_
 simp only [laws_has.c, laws_has.w]
 rw [hasL_lp hl l 0 rfl (by omega) (fun n => R (n + 1) false) (fun n => R (n + 1)), Ev.s1 R, Ev.s1 R]
 by_cases h : a ∈ l
 ·rw [if_pos h, decide_eq_true h]
 ·rw [if_neg h, decide_eq_false h]
end Go.Vsi
end

section
set_option linter.unusedVariables false
set_option linter.unusedSimpArgs false
set_option synthInstance.maxSize 4096
namespace Go.Vsi
theorem drawMerge_lp_wp {bs : List Int} (hb : Bytes bs) {d : List tDecl} (hd : d.length ≤ 7) : ∀ (m : Nat) (x : Int), x + m = d.length → 0 ≤ x → ∀ (o : List Int) (p : Int), o.length ≤ x → Pos bs p → ∀ R : Nat → List Int → List tDecl → List Int → Int → Prop,
  (∀ o q, o.length ≤ 7 → Pos bs q → Ev (fun n => R n o d bs q)) → Ev (fun n => spec_DrawMerge.l5 n d x o bs p (R n))
 | 0, x, hx, h0, o, p, ho, hp, R, hR => by
  refine Ev.succ ?_
  simp only [spec_DrawMerge.l5, spec_DrawMerge.l5.b]
  exact Ev.neg (by simp; omega) (hR o p (by omega) hp).shift
 | m + 1, x, hx, h0, o, p, ho, hp, R, hR => by
  refine Ev.succ ?_
  simp only [spec_DrawMerge.l5, spec_DrawMerge.l5.b]
  refine Ev.pos (by simp; omega) (once_wp hb hp (by omega) fun r q hq => Ev.ite (fun _ => Ev.grd (by simp; omega) ?_) fun _ => ?_)
  ·rw [wrap64 (by omega) (by omega)]
   exact drawMerge_lp_wp hb hd m (x + 1) (by omega) (by omega) _ q (by simp; omega) hq (fun n => R (n + 1)) fun o q h1 h2 => (hR o q h1 h2).shift
  ·rw [wrap64 (by omega) (by omega)]
   exact drawMerge_lp_wp hb hd m (x + 1) (by omega) (by omega) _ q (by omega) hq (fun n => R (n + 1)) fun o q h1 h2 => (hR o q h1 h2).shift
theorem drawMerge_wp {bs : List Int} {R : Nat → List tDecl → List tBits → List tBits → List Int → Prop} (hb : Bytes bs) (h : ∀ d a b vars, DDecls d → DVals a → DVals b → vars.length ≤ 8 → Ev (fun n => R n d a b vars)) :
  Ev (fun n => spec_DrawMerge.c n bs (R n)) := by
 refine Ev.succ ?_
 simp only [spec_DrawMerge.c, spec_DrawMerge.w]
 refine open_wp (decls_wp hb ⟨by omega, by omega⟩ fun d q hd hq => ?_)
 refine drawMerge_lp_wp hb hd.2.1 d.length 0 (by omega) (by omega) [] q (by simp) hq (fun n y33 y34 y35 y36 => spec_l1Rd_once.c n y35 y36 16 _) fun o q1 ho hq1 => ?_
 have hd1 := hd.1
 have hd2 := hd.2.1
 refine once_wp hb hq1 (by omega) fun r q2 hq2 => Ev.ite (fun _ => ?_) fun _ => values_wp hb hq2 hd1 hd2 fun a q3 ha hq3 => values_wp hb hq3 hd1 hd2 fun b q4 hb' _ => (h d a b o hd ha hb' (by omega)).shift
 rw [wrap64 (by omega) (by omega)]
 exact off_wp hb hq2 ⟨by omega, by omega⟩ ⟨by omega, by omega⟩ (by omega) fun v q3 _ hq3 => Ev.grd (by simp; omega) (values_wp hb hq3 hd1 hd2 fun a q3 ha hq3 => values_wp hb hq3 hd1 hd2 fun b q4 hb' _ => (h d a b _ hd ha hb' (by simp; omega)).shift)
theorem mergedL_lp {d : List tDecl} {a b : List tBits} {vars : List Int} (hd : d.length ≤ 1048576) (hda : a.length = d.length) (hdb : b.length = d.length) (hv : vars.length ≤ 1048576) (ha : ∀ z ∈ a, z.2.length ≤ 1099511627776) (hb : ∀ z ∈ b, z.2.length ≤ 1099511627776) : ∀ (m : Nat) (x : Int), x + m = d.length → 0 ≤ x →
  ∀ (Kx : Nat → List tBits → List tBits → List tDecl → List tBits → Prop) (Kr : Nat → Bool → Prop), Ev (fun n => Kx n a b d (mix vars a b 0)) → Ev (fun n => laws_FnMerged.l11 n a b d vars (mix vars a b 0) x (Kx n) (Kr n))
 | 0, x, hx, h0, Kx, Kr, hK => by
  have hl := mix_len (vars := vars) (i := 0) (show a.length = b.length by omega)
  refine Ev.succ ?_
  simp only [laws_FnMerged.l11, laws_FnMerged.l11.b]
  exact Ev.neg (by simp; omega) hK.shift
 | m + 1, x, hx, h0, Kx, Kr, hK => by
  have hl := mix_len (vars := vars) (i := 0) (show a.length = b.length by omega)
  have hm := mix_rd (vars := vars) (i := 0) (k := x.toNat) (show a.length = b.length by omega) (by omega)
  rw [show (0 : Int) + (x.toNat : Int) = x by omega] at hm
  have hh := fun R => hasL_ev (l := vars) (a := x) (by omega) R
  have ih := mergedL_lp hd hda hdb hv ha hb m (x + 1) (by omega) (by omega) (fun n => Kx (n + 1)) (fun n => Kr (n + 1)) hK.shift
  have la := rd_memL (P := fun z : tBits => z.2.length ≤ 1099511627776) ha (i := x.toNat) (by omega)
  have lb := rd_memL (P := fun z : tBits => z.2.length ≤ 1099511627776) hb (i := x.toNat) (by omega)
  have sm := fun (z : tBits) (hz : z.2.length ≤ 1099511627776) R => sameL_ev (a := z.1) (b := z.1) (l := z.2) (l' := z.2) hz R
  refine Ev.succ ?_
  simp (disch := omega) only [laws_FnMerged.l11, laws_FnMerged.l11.b, laws_FnMerged.j5, laws_FnMerged.j4, decide_eq_true_eq, if_pos, grd_dec2, hh, Ev.iteI, hm, wrap64]
  split
  ·rw [sm _ lb]; simpa using ih
  ·rw [sm _ la]; simpa using ih
theorem sameV_lp {a : List tBits} (hl : a.length ≤ 1048576) (ha : ∀ z ∈ a, z.2.length ≤ 1099511627776) : ∀ (m : Nat) (x : Int), x + m = a.length → 0 ≤ x → ∀ (Kx : Nat → Prop) (Kr : Nat → Bool → Prop), Ev Kx → Ev (fun n => laws_sameValues.l4 n a a x (Kx n) (Kr n))
 | 0, x, hx, h0, Kx, Kr, hK => by
  refine Ev.succ ?_
  simp only [laws_sameValues.l4, laws_sameValues.l4.b]
  exact Ev.neg (by simp; omega) hK.shift
 | m + 1, x, hx, h0, Kx, Kr, hK => by
  have ih := sameV_lp hl ha m (x + 1) (by omega) (by omega) (fun n => Kx (n + 1)) (fun n => Kr (n + 1)) hK.shift
  have la := rd_memL (P := fun z : tBits => z.2.length ≤ 1099511627776) ha (i := x.toNat) (by omega)
  have sm := fun R => sameL_ev (a := (rd a x.toNat).1) (b := (rd a x.toNat).1) (l := (rd a x.toNat).2) (l' := (rd a x.toNat).2) la R
  refine Ev.succ ?_
  simp (disch := omega) only [laws_sameValues.l4, laws_sameValues.l4.b, decide_eq_true_eq, if_pos, grd_dec2, wrap64, sm]
  simpa using ih
theorem sameV_wp {a : List tBits} (hl : a.length ≤ 1048576) (ha : ∀ z ∈ a, z.2.length ≤ 1099511627776) (R : Nat → Bool → Prop) (h : Ev (fun n => R n true)) : Ev (fun n => laws_sameValues.c n a a (R n)) := by
 refine Ev.succ ?_
 simp only [laws_sameValues.c, laws_sameValues.w]
 refine Ev.neg (by simp) (sameV_lp hl ha a.length 0 (by omega) (by omega) (fun n => R (n + 1) true) (fun n => R (n + 1)) h.shift)
theorem mix_nil : ∀ {a b : List tBits} {i : Int}, a.length = b.length → mix [] a b i = a
 | [], [], _, _ => rfl
 | _ :: _, [], _, h => by simp at h
 | [], _ :: _, _, h => by simp at h
 | x :: a, y :: b, i, h => by rw [mix, mix_nil (by simpa using h)]; simp
theorem DVals.wd {v : List tBits} (h : DVals v) : ∀ z ∈ v, Wd z.2 ∧ z.2.length ≤ 1099511627776 := fun z hz => ⟨(h.2 z hz).2.1, by have := (h.2 z hz).2.2; omega⟩
theorem bytes_gd {code : List Int} (hc : Gd (.sl 0 (.int .u8)) code) (h : ¬ (code.length : Int) > 1048576) : Bytes code := by
 refine ⟨fun x hx => ?_, by omega⟩
 have := hc.2 x hx
 have h1 : (0 : Int) ≤ x := this.1
 have h2 : x ≤ (255 : Int) := this.2
 omega
theorem merged_law {code : List Int} (hc : Gd (.sl 0 (.int .u8)) code) (K : Bool → Prop) : True ∧ (K true → Ev (fun n => laws_FnMerged.c n code K)) := by
 refine ⟨trivial, fun hK => ?_⟩
 refine Ev.succ ?_
 simp only [laws_FnMerged.c, laws_FnMerged.w]
 refine big_wp (Ev.ite (fun _ => Ev.const hK) fun hb => ?_)
 have hB := bytes_gd hc (by simpa using hb)
 refine drawMerge_wp hB fun d a b vars hd ha hb hv => ?_
 have hd2 := hd.2.1
 have hal := ha.1
 have hbl := hb.1
 have s1 := fun R => mergeS_ev (d := d) (a := a) (b := b) (vars := vars) (by omega) (by omega) ha.wd hb.wd R
 have s2 := fun R => mergeI_ev (d := d) (a := a) (b := b) (vars := vars) (by omega) (by omega) (by omega) ha.wd hb.wd R
 have s3 := fun R => mergeI_ev (d := d) (a := a) (b := b) (vars := []) (by simp) (by omega) (by omega) ha.wd hb.wd R
 rw [s1, s2]
 simp only [beq_self_eq_true, Bool.not_true, Bool.false_eq_true, if_false]
 by_cases h : mergeOk d a b vars = true
 ·have h' := h
  rw [mergeOk, Bool.and_eq_true, Bool.and_eq_true] at h'
  have l1 : a.length = d.length := by have := h'.1.1; rw [valsOk, valsI] at this; simp at this; exact this.2.1
  have l2 : b.length = d.length := by have := h'.1.2; rw [valsOk, valsI] at this; simp at this; exact this.2.1
  have hn : mergeOk d a b [] = true := by rw [mergeOk, h'.1.1, h'.1.2]; rfl
  simp only [h, if_true, Bool.not_true, Bool.false_eq_true, if_false]
  refine mergedL_lp (by omega) l1 l2 (by omega) (fun z hz => (ha.wd z hz).2) (fun z hz => (hb.wd z hz).2) d.length 0 (by omega) (by omega) _ _ ?_
  rw [s3]
  simp only [hn, if_true, mix_nil (show a.length = b.length by omega), mix_len (vars := vars) (i := 0) (show a.length = b.length by omega), l1, decide_true]
  exact sameV_wp (by omega) (fun z hz => (ha.wd z hz).2) (fun n y => K y) (Ev.const hK)
 ·have h' := Bool.eq_false_iff.2 h
  simp only [h', Bool.not_false, if_true, Bool.false_eq_true, if_false, List.length_nil]
  exact Ev.const hK
end Go.Vsi
end
