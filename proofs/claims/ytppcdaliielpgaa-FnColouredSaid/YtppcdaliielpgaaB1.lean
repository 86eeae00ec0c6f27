/- What the told functions answer. No statement is proved here. -/
import Derived.Test.YtppcdaliielpgaaA1

section
set_option linter.unusedVariables false
namespace Go.Vsi
def Ev (P : Nat -> Prop) : Prop := ∃ N, ∀ n, N <= n -> P n
theorem Ev.succ {P : Nat -> Prop} : Ev (fun n => P (n + 1)) -> Ev P
 | ⟨N, h⟩ => ⟨N + 1, fun n hn => by obtain ⟨m, rfl⟩ : ∃ m, n = m + 1 := ⟨n - 1, by omega⟩; exact h m (by omega)⟩
theorem Ev.shift {P : Nat -> Prop} : Ev P -> Ev (fun n => P (n + 1))
 | ⟨N, h⟩ => ⟨N, fun n hn => h (n + 1) (by omega)⟩
theorem Ev.and {P Q : Nat -> Prop} : Ev P -> Ev Q -> Ev (fun n => P n /\ Q n)
 | ⟨N, h⟩, ⟨M, g⟩ => ⟨max N M, fun n hn => ⟨h n (by omega), g n (by omega)⟩⟩
theorem Ev.const {p : Prop} (h : p) : Ev (fun _ => p) := ⟨0, fun _ _ => h⟩
theorem Ev.imp {P Q : Nat -> Prop} (hpq : ∀ n, P n -> Q n) : Ev P -> Ev Q
 | ⟨N, h⟩ => ⟨N, fun n hn => hpq n (h n hn)⟩
theorem Ev.grd {b : Bool} {P : Nat -> Prop} (hb : b = true) (h : Ev P) : Ev (fun n => grd b (P n)) := by
 subst hb; exact h
theorem Ev.ite {c : Prop} [Decidable c] {P Q : Nat -> Prop} (h1 : c -> Ev P) (h2 : ¬ c -> Ev Q) : Ev (fun n => if c then P n else Q n) := by
 by_cases h : c
 ·simp only [if_pos h]; exact h1 h
 ·simp only [if_neg h]; exact h2 h
theorem Ev.pos {c : Prop} [Decidable c] {P Q : Nat -> Prop} (h : c) (h1 : Ev P) : Ev (fun n => if c then P n else Q n) := by
 simp only [if_pos h]; exact h1
theorem Ev.neg {c : Prop} [Decidable c] {P Q : Nat -> Prop} (h : ¬ c) (h1 : Ev Q) : Ev (fun n => if c then P n else Q n) := by
 simp only [if_neg h]; exact h1
theorem Ev.some {P : Nat -> Prop} : Ev P -> ∃ n, P n
 | ⟨N, h⟩ => ⟨N, h N (Nat.le_refl _)⟩
theorem wrap64 {x : Int} (h1 : -9223372036854775808 <= x) (h2 : x < 9223372036854775808) : IntKind.wrap .i64 x = x := by
 simp only [IntKind.wrap, IntKind.bits, IntKind.signed, Bool.true_and]
 split <;> simp_all <;> omega
theorem wrapU {x : Int} (h1 : 0 <= x) (h2 : x < 18446744073709551616) : IntKind.wrap .u64 x = x := by
 simp only [IntKind.wrap, IntKind.bits, IntKind.signed, Bool.false_and]
 simp; omega
theorem wrapUm (x : Int) : IntKind.wrap .u64 x = x % 18446744073709551616 := by
 simp only [IntKind.wrap, IntKind.bits, IntKind.signed, Bool.false_and]
 simp
theorem wrapUr (x : Int) : 0 <= IntKind.wrap .u64 x /\ IntKind.wrap .u64 x < 18446744073709551616 := by
 rw [wrapUm]; omega
theorem wrap64r (x : Int) : -9223372036854775808 <= IntKind.wrap .i64 x /\ IntKind.wrap .i64 x < 9223372036854775808 := by
 simp only [IntKind.wrap, IntKind.bits, IntKind.signed, Bool.true_and]
 split <;> simp_all <;> omega
theorem wrap8 {x : Int} (h1 : 0 <= x) (h2 : x < 256) : IntKind.wrap .u8 x = x := by
 simp only [IntKind.wrap, IntKind.bits, IntKind.signed, Bool.false_and]
 simp; omega
theorem tdivP {x m : Int} (h : 0 <= x) : Int.tdiv x m = x / m := Int.tdiv_eq_ediv_of_nonneg h
theorem tmodP {x m : Int} (h : 0 <= x) : Int.tmod x m = x % m := Int.tmod_eq_emod_of_nonneg h
theorem fdivP {x m : Int} (h : 0 <= m) : Int.fdiv x m = x / m := Int.fdiv_eq_ediv_of_nonneg x h
def W (ws : List Nat) : List Int := ws.map Int.ofNat
theorem W_len (ws : List Nat) : (W ws).length = ws.length := by simp [W]
theorem W_rd (ws : List Nat) (i : Nat) : rd (W ws) i = ((ws.getD i 0 : Nat) : Int) := by
 simp only [rd, W, List.getD_eq_getElem?_getD, List.getElem?_map]
 cases ws[i]? <;> rfl
theorem W_set (ws : List Nat) (i x : Nat) : List.set (W ws) i (x : Int) = W (ws.set i x) := by
 simp only [W, List.map_set]; rfl
theorem W_rep (n : Nat) : List.replicate n (0 : Int) = W (List.replicate n 0) := by simp [W]
def Below (m : Nat) (ws : List Nat) : Prop := ∀ x ∈ ws, x < m
theorem W_of {m : Nat} : ∀ {l : List Int}, (∀ x ∈ l, 0 <= x /\ x < (m : Int)) -> ∃ ws, l = W ws /\ Below m ws
 | [], _ => ⟨[], rfl, by simp [Below]⟩
 | x :: l, h => by
  obtain ⟨ws, rfl, hb⟩ := W_of (l := l) fun y hy => h y (by simp [hy])
  have hx := h x (by simp)
  refine ⟨x.toNat :: ws, ?_, ?_⟩
  ·simp only [W, List.map_cons, List.cons.injEq, and_true]
   show x = (x.toNat : Int); omega
  ·intro y hy
   simp only [List.mem_cons] at hy
   rcases hy with rfl | hy
   ·omega
   ·exact hb y hy
theorem Below.getD {m : Nat} {ws : List Nat} (h : Below m ws) (hm : 0 < m) (i : Nat) : ws.getD i 0 < m := by
 rw [List.getD_eq_getElem?_getD]
 cases hw : ws[i]? with
 | none => exact hm
 | some y => exact h y (List.mem_of_getElem? hw)
theorem Below.set {m : Nat} {ws : List Nat} (h : Below m ws) {i x : Nat} (hx : x < m) : Below m (ws.set i x) := by
 intro y hy
 rcases List.mem_or_eq_of_mem_set hy with h' | rfl
 ·exact h y h'
 ·exact hx
theorem Below.app {m : Nat} {a b : List Nat} (ha : Below m a) (hb : Below m b) : Below m (a ++ b) := by
 intro y hy
 rcases List.mem_append.mp hy with h | h
 ·exact ha y h
 ·exact hb y h
theorem Below.rep {m n : Nat} (hm : 0 < m) : Below m (List.replicate n 0) := by
 intro y hy
 rw [List.eq_of_mem_replicate hy]; exact hm
theorem or_W {a b : Nat} (ha : a < 18446744073709551616) (hb : b < 18446744073709551616) : ibits .or .u64 (a : Int) (b : Int) = ((a ||| b : Nat) : Int) := by
 have hab : a ||| b < 2 ^ 64 := Nat.or_lt_two_pow ha hb
 show IntKind.wrap .u64 (((BitVec.ofInt 64 (a : Int) ||| BitVec.ofInt 64 (b : Int) : BitVec 64).toNat : Nat) : Int) = _
 rw [BitVec.toNat_or, BitVec.ofInt_natCast, BitVec.ofInt_natCast, BitVec.toNat_ofNat, BitVec.toNat_ofNat]
 rw [Nat.mod_eq_of_lt ha, Nat.mod_eq_of_lt hb]
 exact wrapU (by omega) (by omega)
theorem and_W {a b : Nat} (ha : a < 18446744073709551616) (hb : b < 18446744073709551616) : ibits .and .u64 (a : Int) (b : Int) = ((a &&& b : Nat) : Int) := by
 have hab : a &&& b < 2 ^ 64 := Nat.and_lt_two_pow a hb
 show IntKind.wrap .u64 (((BitVec.ofInt 64 (a : Int) &&& BitVec.ofInt 64 (b : Int) : BitVec 64).toNat : Nat) : Int) = _
 rw [BitVec.toNat_and, BitVec.ofInt_natCast, BitVec.ofInt_natCast, BitVec.toNat_ofNat, BitVec.toNat_ofNat]
 rw [Nat.mod_eq_of_lt ha, Nat.mod_eq_of_lt hb]
 exact wrapU (by omega) (by omega)
theorem ibitsU (op : BinOp) (x y : Int) : 0 <= ibits op .u64 x y /\ ibits op .u64 x y < 18446744073709551616 := by
 cases op <;> first | exact wrapUr _ | (constructor <;> decide)
theorem shl_W (a k : Nat) (hk : k <= 64) : IntKind.wrap .u64 ((a : Int) * 2 ^ (Nat.min k 64)) = (((a <<< k) % 18446744073709551616 : Nat) : Int) := by
 rw [wrapUm, show Nat.min k 64 = k from Nat.min_eq_left hk, Nat.shiftLeft_eq]
 simp
theorem shr_W (a k : Nat) (hk : k <= 64) : Int.fdiv (a : Int) (2 ^ (Nat.min k 64)) = ((a >>> k : Nat) : Int) := by
 rw [fdivP (Int.le_of_lt (Int.pow_pos (by decide))), show Nat.min k 64 = k from Nat.min_eq_left hk, Nat.shiftRight_eq_div_pow]
 simp
def bit (ws : List Nat) (i : Nat) : Bool := (ws.getD (i / 64) 0).testBit (i % 64)
theorem bit_set {ws : List Nat} {k x : Nat} (hk : k < ws.length) (i : Nat) : bit (ws.set k x) i = if i / 64 = k then x.testBit (i % 64) else bit ws i := by
 simp only [bit, List.getD_eq_getElem?_getD, List.getElem?_set]
 by_cases h : i / 64 = k
 ·subst h; simp [hk]
 ·rw [if_neg (fun h' => h h'.symm), if_neg h]
theorem bit_out {ws : List Nat} {i : Nat} (h : 64 * ws.length <= i) : bit ws i = false := by
 have : ws.length <= i / 64 := by omega
 simp [bit, List.getD_eq_getElem?_getD, List.getElem?_eq_none this]
theorem bit_rep (n i : Nat) : bit (List.replicate n 0) i = false := by
 simp only [bit, List.getD_eq_getElem?_getD, List.getElem?_replicate]
 split <;> simp
theorem words_ext {a b : List Nat} (hl : a.length = b.length) (ha : Below 18446744073709551616 a) (hb : Below 18446744073709551616 b)
  (h : ∀ i, i < 64 * a.length -> bit a i = bit b i) : a = b := by
 apply List.ext_getElem hl
 intro k h1 h2
 apply Nat.eq_of_testBit_eq
 intro j
 by_cases hj : j < 64
 ·have := h (64 * k + j) (by omega)
  have e1 : (64 * k + j) / 64 = k := by omega
  have e2 : (64 * k + j) % 64 = j := by omega
  simpa [bit, e1, e2, List.getD_eq_getElem?_getD, h1, h2] using this
 ·have p : ∀ x, x < 18446744073709551616 -> x.testBit j = false := fun x hx =>
   Nat.testBit_lt_two_pow (Nat.lt_of_lt_of_le hx (Nat.pow_le_pow_right (n := 2) (by decide) (Nat.not_lt.mp hj)))
  rw [p _ (ha _ (List.getElem_mem h1)), p _ (hb _ (List.getElem_mem h2))]
def cnt (f : Nat -> Bool) : Nat -> Nat
 | 0 => 0
 | n + 1 => cnt f n + (f n).toNat
theorem cnt_ext {f g : Nat -> Bool} : ∀ {n : Nat}, (∀ i, i < n -> f i = g i) -> cnt f n = cnt g n
 | 0, _ => rfl
 | n + 1, h => by simp only [cnt]; rw [cnt_ext (fun i hi => h i (by omega)), h n (by omega)]
theorem cnt_add (f : Nat -> Bool) (a : Nat) : ∀ b, cnt f (a + b) = cnt f a + cnt (fun i => f (a + i)) b
 | 0 => rfl
 | b + 1 => by show cnt f (a + b) + (f (a + b)).toNat = cnt f a + (cnt (fun i => f (a + i)) b + (f (a + b)).toNat); rw [cnt_add f a b]; omega
theorem cnt_zero {f : Nat -> Bool} : ∀ {n : Nat}, (∀ i, i < n -> f i = false) -> cnt f n = 0
 | 0, _ => rfl
 | n + 1, h => by simp only [cnt]; rw [cnt_zero (fun i hi => h i (by omega)), h n (by omega)]; rfl
theorem cnt_le (f : Nat -> Bool) : ∀ n, cnt f n <= n
 | 0 => Nat.le_refl _
 | n + 1 => by
  have := cnt_le f n
  simp only [cnt]
  cases f n <;> simp <;> omega
end Go.Vsi
end

section
set_option linter.unusedVariables false
namespace Go.Vsi
theorem Ev.suc {P : Nat -> Prop} : Ev P ↔ Ev (fun n => P (n + 1)) := ⟨Ev.shift, Ev.succ⟩
theorem Ev.s0 (R : Nat -> Prop) : Ev (fun n => R (n + 1)) ↔ Ev (fun n => R n) := ⟨Ev.succ, Ev.shift⟩
theorem Ev.s1 {α : Type} (R : Nat -> α -> Prop) (a : α) : Ev (fun n => R (n + 1) a) ↔ Ev (fun n => R n a) := Ev.s0 (fun n => R n a)
theorem Ev.s2 {α β : Type} (R : Nat -> α -> β -> Prop) (a : α) (b : β) : Ev (fun n => R (n + 1) a b) ↔ Ev (fun n => R n a b) := Ev.s0 (fun n => R n a b)
theorem Ev.s3 {α β γ : Type} (R : Nat -> α -> β -> γ -> Prop) (a : α) (b : β) (c : γ) : Ev (fun n => R (n + 1) a b c) ↔ Ev (fun n => R n a b c) := Ev.s0 (fun n => R n a b c)
theorem Ev.s4 {α β γ δ : Type} (R : Nat -> α -> β -> γ -> δ -> Prop) (a : α) (b : β) (c : γ) (d : δ) : Ev (fun n => R (n + 1) a b c d) ↔ Ev (fun n => R n a b c d) := Ev.s0 (fun n => R n a b c d)
theorem Ev.s5 {α β γ δ ε : Type} (R : Nat -> α -> β -> γ -> δ -> ε -> Prop) (a : α) (b : β) (c : γ) (d : δ) (e : ε) : Ev (fun n => R (n + 1) a b c d e) ↔ Ev (fun n => R n a b c d e) := Ev.s0 (fun n => R n a b c d e)
theorem Ev.s7 {α β γ δ ε ζ η : Type} (R : Nat -> α -> β -> γ -> δ -> ε -> ζ -> η -> Prop) (a : α) (b : β) (c : γ) (d : δ) (e : ε) (f : ζ) (g : η) : Ev (fun n => R (n + 1) a b c d e f g) ↔ Ev (fun n => R n a b c d e f g) := Ev.s0 (fun n => R n a b c d e f g)
theorem Ev.s8 {α β γ δ ε ζ η θ : Type} (R : Nat -> α -> β -> γ -> δ -> ε -> ζ -> η -> θ -> Prop) (a : α) (b : β) (c : γ) (d : δ) (e : ε) (f : ζ) (g : η) (h : θ) : Ev (fun n => R (n + 1) a b c d e f g h) ↔ Ev (fun n => R n a b c d e f g h) := Ev.s0 (fun n => R n a b c d e f g h)
@[simp] theorem Ev.k {p : Prop} : Ev (fun _ => p) ↔ p := ⟨fun ⟨_, h⟩ => h _ (Nat.le_refl _), Ev.const⟩
@[simp] theorem Ev.iteI {c : Prop} [Decidable c] {P Q : Nat -> Prop} : Ev (fun n => if c then P n else Q n) ↔ if c then Ev P else Ev Q := by
 by_cases h : c <;> simp only [h, if_true, if_false]
@[simp] theorem Ev.andI {P Q : Nat -> Prop} : Ev (fun n => P n /\ Q n) ↔ Ev P /\ Ev Q :=
 ⟨fun ⟨N, h⟩ => ⟨⟨N, fun n hn => (h n hn).1⟩, ⟨N, fun n hn => (h n hn).2⟩⟩, fun h => Ev.and h.1 h.2⟩
theorem grd_dec {p : Prop} [Decidable p] {P : Prop} (h : p) : grd (decide p) P ↔ P := by rw [decide_eq_true h]; exact Iff.rfl
theorem grd_dec2 {p q : Prop} [Decidable p] [Decidable q] {P : Prop} (h : p /\ q) : grd (decide p && decide q) P ↔ P := by rw [decide_eq_true h.1, decide_eq_true h.2]; exact Iff.rfl
@[simp] theorem grd_true {P : Prop} : grd true P ↔ P := Iff.rfl
theorem drop_nil {α : Type} {l : List α} {x : Int} (h : l.drop x.toNat = []) (h0 : 0 <= x) : (l.length : Int) <= x := by
 have := List.drop_eq_nil_iff.1 h; omega
theorem drop_cons {α : Type} [Inhabited α] {l ys : List α} {x : Int} {y : α} (h : l.drop x.toNat = y :: ys) (h0 : 0 <= x) :
  x < (l.length : Int) /\ rd l x.toNat = y /\ l.drop (x + 1).toNat = ys := by
 have hl : x.toNat < l.length := by
  rcases Nat.lt_or_ge x.toNat l.length with h' | h'
  ·exact h'
  ·rw [List.drop_eq_nil_of_le h'] at h; cases h
 refine ⟨by omega, ?_, ?_⟩
 ·have := List.getElem?_drop (xs := l) (i := x.toNat) (j := 0)
  rw [h] at this
  simp only [List.getElem?_cons_zero, Nat.add_zero] at this
  simp [rd, List.getD_eq_getElem?_getD, <- this]
 ·rw [show (x + 1).toNat = x.toNat + 1 from by omega, <- List.drop_drop, h]; rfl
theorem rd_set {α : Type} [Inhabited α] {l : List α} {i : Nat} {v : α} (h : i < l.length) : rd (l.set i v) i = v := by
 simp [rd, List.getD_eq_getElem?_getD, h]
theorem ev_arg {α : Type} {R : Nat -> α -> Prop} {a b : α} (h : a = b) : Ev (fun n => R n a) ↔ Ev (fun n => R n b) := by rw [h]
def Gd : (t : Ty) -> t.T -> Prop
 | .int k, n => k.min <= n /\ n <= k.max
 | .str, s => s.length <= 9223372036854775807
 | .sl _ t, l => l.length <= 9223372036854775807 /\ ∀ y, y ∈ l -> Gd t y
 | .prod a b, p => Gd a p.1 /\ Gd b p.2
 | .bool, _ => True
 | .unit, _ => True
 | .ptr _ _, _ => True
def firstIx {α : Type} (p : α -> Bool) : List α -> Int -> Int
 | [], _ => -1
 | y :: r, x => if p y = true then x else firstIx p r (x + 1)
theorem firstIx_neg {α : Type} {p : α -> Bool} : ∀ {l : List α} {x : Int}, 0 <= x -> firstIx p l x < 0 -> firstIx p l x = -1
 | [], x, _, _ => rfl
 | y :: l, x, h0, h => by
  rw [firstIx] at h ⊢
  split
  ·rename_i hp; rw [if_pos hp] at h; omega
  ·rename_i hp; rw [if_neg hp] at h; exact firstIx_neg (by omega) h
theorem firstIx_any {α : Type} {p : α -> Bool} : ∀ {l : List α} {x : Int}, 0 <= x -> decide (firstIx p l x >= 0) = l.any p
 | [], x, _ => by simp [firstIx]
 | y :: l, x, h0 => by
  rw [firstIx, List.any_cons]
  by_cases hp : p y = true
  ·simp [hp, h0]
  ·rw [if_neg hp, firstIx_any (by omega)]
   simp only [Bool.not_eq_true] at hp
   simp [hp]
end Go.Vsi
end

section
set_option linter.unusedVariables false
set_option linter.unusedSimpArgs false
namespace Go.Vsi
structure Ok (w : Int) (ws : List Nat) : Prop where
 lo : 1 <= w
 hi : w <= 4096
 len : (ws.length : Int) = (w + 63) / 64
 words : Below 18446744073709551616 ws
 top : ∀ i : Nat, w <= i -> bit ws i = false
def wnum (f : Nat -> Bool) : Nat -> Nat
 | 0 => 0
 | n + 1 => wnum f n ||| ((f n).toNat <<< n)
theorem toNat_testBit (b : Bool) (k : Nat) : b.toNat.testBit k = (decide (k = 0) && b) := by
 cases b
 ·simp
 ·cases k <;> simp [Nat.testBit_succ]
theorem wnum_bit (f : Nat -> Bool) : ∀ (n j : Nat), (wnum f n).testBit j = (decide (j < n) && f j)
 | 0, j => by simp [wnum]
 | n + 1, j => by
  rw [wnum, Nat.testBit_or, wnum_bit f n, Nat.testBit_shiftLeft, toNat_testBit]
  by_cases h : j < n
  ·have h1 : j < n + 1 := by omega
   have h2 : ¬ n <= j := by omega
   simp [h, h1, h2]
  ·by_cases h3 : j = n
   ·subst h3; simp
   ·have h1 : ¬ j < n + 1 := by omega
    have h2 : ¬ j - n = 0 := by omega
    simp [h, h1, h2]
theorem wnum_lt (f : Nat -> Bool) (n : Nat) : wnum f n < 2 ^ n := by
 apply Nat.lt_pow_two_of_testBit
 intro j hj
 rw [wnum_bit]
 have : ¬ j < n := by omega
 simp [this]
def pk (w : Nat) (f : Nat -> Bool) : List Nat := (List.range ((w + 63) / 64)).map fun k => wnum (fun j => decide (64 * k + j < w) && f (64 * k + j)) 64
theorem pk_len (w : Nat) (f : Nat -> Bool) : (pk w f).length = (w + 63) / 64 := by simp [pk]
theorem pk_getD (w : Nat) (f : Nat -> Bool) {k : Nat} (h : k < (w + 63) / 64) : (pk w f).getD k 0 = wnum (fun j => decide (64 * k + j < w) && f (64 * k + j)) 64 := by
 rw [List.getD_eq_getElem?_getD, pk, List.getElem?_map, List.getElem?_range h]; rfl
theorem pk_bit (w : Nat) (f : Nat -> Bool) (i : Nat) : bit (pk w f) i = (decide (i < w) && f i) := by
 by_cases h : i / 64 < (w + 63) / 64
 ·rw [bit, pk_getD w f h, wnum_bit, show 64 * (i / 64) + i % 64 = i from by omega]
  have : i % 64 < 64 := by omega
  simp [this]
 ·rw [bit_out (by rw [pk_len]; omega)]
  have : ¬ i < w := by omega
  simp [this]
theorem pk_below (w : Nat) (f : Nat -> Bool) : Below 18446744073709551616 (pk w f) := by
 intro x hx
 rw [pk, List.mem_map] at hx
 obtain ⟨k, _, rfl⟩ := hx
 exact wnum_lt _ 64
theorem pk_of {w : Nat} {ws : List Nat} {f : Nat -> Bool} (h : Ok w ws) (hf : ∀ i, i < w -> bit ws i = f i) : ws = pk w f := by
 refine words_ext (by rw [pk_len]; have := h.len; omega) h.words (pk_below w f) fun i _ => ?_
 rw [pk_bit]
 by_cases hi : i < w
 ·rw [hf i hi]; simp [hi]
 ·rw [h.top i (by omega)]; simp [hi]
def bl (w : Nat) (f : Nat -> Bool) : List Int := (List.range w).map fun i => ((f i).toNat : Int)
theorem bl_len (w : Nat) (f : Nat -> Bool) : (bl w f).length = w := by simp [bl]
theorem bl_rd {w : Nat} {f : Nat -> Bool} {i : Nat} (h : i < w) : rd (bl w f) i = ((f i).toNat : Int) := by
 rw [rd, List.getD_eq_getElem?_getD, bl, List.getElem?_map, List.getElem?_range h]; rfl
theorem bl_ext {w : Nat} {f g : Nat -> Bool} (h : ∀ i, i < w -> f i = g i) : bl w f = bl w g := by
 rw [bl, bl]; refine List.map_congr_left fun i hi => ?_
 rw [h i (List.mem_range.1 hi)]
theorem bl_of {l : List Int} {w : Nat} {f : Nat -> Bool} (hl : l.length = w) (h : ∀ i, i < w -> rd l i = ((f i).toNat : Int)) : l = bl w f := by
 apply List.ext_getElem (by rw [hl, bl_len])
 intro i h1 h2
 have a := h i (by omega)
 have b := bl_rd (f := f) (show i < w by omega)
 rw [rd, List.getD_eq_getElem?_getD, List.getElem?_eq_getElem h1] at a
 rw [rd, List.getD_eq_getElem?_getD, List.getElem?_eq_getElem h2] at b
 simp only [Option.getD_some] at a b
 rw [a, b]
theorem bl_app (u v : Nat) (f g : Nat -> Bool) : bl u f ++ bl v g = bl (u + v) (fun i => if i < u then f i else g (i - u)) := by
 refine bl_of (by simp [bl_len]) fun i hi => ?_
 rw [rd, List.getD_eq_getElem?_getD]
 by_cases h : i < u
 ·rw [List.getElem?_append_left (by rw [bl_len]; exact h), <- List.getD_eq_getElem?_getD]
  simp only [h, if_true]; exact bl_rd h
 ·rw [List.getElem?_append_right (by rw [bl_len]; omega), bl_len, <- List.getD_eq_getElem?_getD]
  simp only [h, if_false]; exact bl_rd (by omega)
theorem bl_one (b : Bool) : [((b.toNat : Nat) : Int)] = bl 1 (fun _ => b) := rfl
theorem bl_zero (f : Nat -> Bool) : bl 0 f = [] := rfl
end Go.Vsi
end

section
set_option linter.unusedVariables false
namespace Go.Vsi
theorem and_split {s a m x y : Nat} (ha : a < 2 ^ s) (hm : m < 2 ^ s) : (2 ^ s * x + a) &&& (2 ^ s * y + m) = 2 ^ s * (x &&& y) + (a &&& m) := by
 have hr : a &&& m < 2 ^ s := Nat.and_lt_two_pow a hm
 apply Nat.eq_of_testBit_eq
 intro j
 rw [Nat.testBit_and, Nat.testBit_two_pow_mul_add _ ha, Nat.testBit_two_pow_mul_add _ hm, Nat.testBit_two_pow_mul_add _ hr]
 split <;> simp [Nat.testBit_and]
def pc (b : Nat) : Nat := b % 2 + b / 2 % 2 + b / 4 % 2 + b / 8 % 2
def mk16 (c : Nat) : Nat -> Nat
 | 0 => 0
 | k + 1 => 16 * mk16 c k + c
theorem and16 (c k : Nat) (hc : c < 16) (x : Nat) : x &&& mk16 c (k + 1) = 16 * (x / 16 &&& mk16 c k) + (x % 16 &&& c) := by
 have := @and_split 4 (x % 16) c (x / 16) (mk16 c k) (by omega) (by omega)
 have e : 2 ^ 4 * (x / 16) + x % 16 = x := by omega
 rw [e] at this
 exact this
def f3 (k x : Nat) : Nat := (x / 2 &&& mk16 5 k) + (x &&& mk16 5 k)
def f5 (k x : Nat) : Nat := (x / 4 &&& mk16 3 k) + (x &&& mk16 3 k)
theorem nib3 : ∀ b : Fin 16, ∀ z : Fin 2, (b.1 / 2 + 8 * z.1) &&& 5 = (b.1 / 2 &&& 5) := by decide
theorem nib5 : ∀ b : Fin 16, ∀ z : Fin 4, (b.1 / 4 + 4 * z.1) &&& 3 = (b.1 / 4 &&& 3) := by decide
theorem nibB : ∀ b : Fin 16, (b.1 / 2 &&& 5) + (b.1 &&& 5) < 16 /\ ((((b.1 / 2 &&& 5) + (b.1 &&& 5)) / 4 &&& 3) + (((b.1 / 2 &&& 5) + (b.1 &&& 5)) &&& 3)) = pc b.1 := by decide
theorem f3_step (k x : Nat) : f3 (k + 1) x = 16 * f3 k (x / 16) + ((x % 16 / 2 &&& 5) + (x % 16 &&& 5)) := by
 have h := nib3 ⟨x % 16, by omega⟩ ⟨x / 16 % 2, by omega⟩
 have e1 : x / 2 % 16 = x % 16 / 2 + 8 * (x / 16 % 2) := by omega
 have e2 : x / 2 / 16 = x / 16 / 2 := by omega
 simp only [f3, and16 5 k (by decide), e1, e2]
 simp only at h
 rw [h]; omega
theorem f5_step (k x : Nat) : f5 (k + 1) x = 16 * f5 k (x / 16) + ((x % 16 / 4 &&& 3) + (x % 16 &&& 3)) := by
 have h := nib5 ⟨x % 16, by omega⟩ ⟨x / 16 % 4, by omega⟩
 have e1 : x / 4 % 16 = x % 16 / 4 + 4 * (x / 16 % 4) := by omega
 have e2 : x / 4 / 16 = x / 16 / 4 := by omega
 simp only [f5, and16 3 k (by decide), e1, e2]
 simp only at h
 rw [h]; omega
theorem f35_step (k x : Nat) : f5 (k + 1) (f3 (k + 1) x) = 16 * f5 k (f3 k (x / 16)) + pc (x % 16) := by
 have h := nibB ⟨x % 16, by omega⟩
 simp only at h
 rw [f5_step, f3_step]
 have e1 : (16 * f3 k (x / 16) + ((x % 16 / 2 &&& 5) + (x % 16 &&& 5))) / 16 = f3 k (x / 16) := by omega
 have e2 : (16 * f3 k (x / 16) + ((x % 16 / 2 &&& 5) + (x % 16 &&& 5))) % 16 = (x % 16 / 2 &&& 5) + (x % 16 &&& 5) := by omega
 rw [e1, e2, h.2]
theorem pc_le (b : Nat) : pc b <= 4 := by simp only [pc]; omega
theorem cnt_nib (x k : Nat) : cnt x.testBit (4 + 4 * k) = pc (x % 16) + cnt (x / 16).testBit (4 * k) := by
 rw [cnt_add]
 congr 1
 ·simp only [cnt, pc, Nat.testBit, Nat.shiftRight_eq_div_pow]
  simp only [Nat.one_and_eq_mod_two]
  have t : ∀ y : Nat, (y % 2 != 0).toNat = y % 2 := fun y => by
   rcases Nat.mod_two_eq_zero_or_one y with h | h <;> simp [h]
  simp only [t]; omega
 ·apply cnt_ext
  intro i _
  have := Nat.testBit_div_two_pow (n := 4) x i
  rw [show x / 16 = x / 2 ^ 4 from rfl, this, Nat.add_comm]
theorem and15 (k x : Nat) : x &&& (256 * k + 15) = 256 * (x / 256 &&& k) + x % 16 := by
 have := @and_split 8 (x % 256) 15 (x / 256) k (by omega) (by omega)
 have e : 2 ^ 8 * (x / 256) + x % 256 = x := by omega
 have e2 : x % 256 &&& 15 = x % 256 % 16 := Nat.and_two_pow_sub_one_eq_mod (x % 256) 4
 rw [e, e2] at this
 have e3 : x % 256 % 16 = x % 16 := by omega
 rw [e3] at this
 exact this
theorem and15' (x : Nat) : x &&& 15 = x % 16 := Nat.and_two_pow_sub_one_eq_mod x 4
theorem and0f (x : Nat) : x &&& 1085102592571150095 = x % 16 + 256 * (x / 256 % 16) + 65536 * (x / 65536 % 16) + 16777216 * (x / 16777216 % 16)
  + 4294967296 * (x / 4294967296 % 16) + 1099511627776 * (x / 1099511627776 % 16) + 281474976710656 * (x / 281474976710656 % 16) + 72057594037927936 * (x / 72057594037927936 % 16) := by
 rw [show 1085102592571150095 = 256 * (256 * (256 * (256 * (256 * (256 * (256 * 15 + 15) + 15) + 15) + 15) + 15) + 15) + 15 from rfl]
 rw [and15, and15, and15, and15, and15, and15, and15, and15']
 simp only [Nat.div_div_eq_div_mul, Nat.reduceMul]
 generalize x % 16 = d0
 generalize x / 256 % 16 = d1
 generalize x / 65536 % 16 = d2
 generalize x / 16777216 % 16 = d3
 generalize x / 4294967296 % 16 = d4
 generalize x / 1099511627776 % 16 = d5
 generalize x / 281474976710656 % 16 = d6
 generalize x / 72057594037927936 % 16 = d7
 omega
theorem pop_fold (p0 p1 p2 p3 p4 p5 p6 p7 p8 p9 p10 p11 p12 p13 p14 p15 : Nat)
  (h0 : p0 <= 4) (h1 : p1 <= 4) (h2 : p2 <= 4) (h3 : p3 <= 4) (h4 : p4 <= 4) (h5 : p5 <= 4) (h6 : p6 <= 4) (h7 : p7 <= 4) (h8 : p8 <= 4) (h9 : p9 <= 4) (h10 : p10 <= 4) (h11 : p11 <= 4) (h12 : p12 <= 4) (h13 : p13 <= 4) (h14 : p14 <= 4) (h15 : p15 <= 4)
  (t : Nat) (ht : t = 16 * (16 * (16 * (16 * (16 * (16 * (16 * (16 * (16 * (16 * (16 * (16 * (16 * (16 * (16 * (16 * 0 + p15) + p14) + p13) + p12) + p11) + p10) + p9) + p8) + p7) + p6) + p5) + p4) + p3) + p2) + p1) + p0) :
  ∃ c0 c1 c2 c3 c4 c5 c6 c7 : Nat, c0 = p0 + p1 /\ c1 = p2 + p3 /\ c2 = p4 + p5 /\ c3 = p6 + p7 /\ c4 = p8 + p9 /\ c5 = p10 + p11 /\ c6 = p12 + p13 /\ c7 = p14 + p15 /\
   t / 16 + t < 18446744073709551616 /\ (t / 16 + t) &&& 1085102592571150095 = c0 + 256 * c1 + 65536 * c2 + 16777216 * c3 + 4294967296 * c4 + 1099511627776 * c5 + 281474976710656 * c6 + 72057594037927936 * c7 := by
 refine ⟨_, _, _, _, _, _, _, _, rfl, rfl, rfl, rfl, rfl, rfl, rfl, rfl, ?_, ?_⟩
 ·omega
 ·rw [and0f]
  have hu : t / 16 + t = (p0 + p1) + 16 * (p1 + p2) + 256 * ((p2 + p3) + 16 * (p3 + p4) + 256 * ((p4 + p5) + 16 * (p5 + p6) + 256 * ((p6 + p7) + 16 * (p7 + p8)
   + 256 * ((p8 + p9) + 16 * (p9 + p10) + 256 * ((p10 + p11) + 16 * (p11 + p12) + 256 * ((p12 + p13) + 16 * (p13 + p14) + 256 * ((p14 + p15) + 16 * p15))))))) := by omega
  rw [hu]
  have d : ∀ a b z : Nat, a <= 8 -> b <= 8 -> (a + 16 * b + 256 * z) % 16 = a /\ (a + 16 * b + 256 * z) / 256 = z := by intro a b z ha hb; omega
  rw [show (65536 : Nat) = 256 * 256 from rfl, show (16777216 : Nat) = 256 * 256 * 256 from rfl, show (4294967296 : Nat) = 256 * 256 * 256 * 256 from rfl,
   show (1099511627776 : Nat) = 256 * 256 * 256 * 256 * 256 from rfl, show (281474976710656 : Nat) = 256 * 256 * 256 * 256 * 256 * 256 from rfl,
   show (72057594037927936 : Nat) = 256 * 256 * 256 * 256 * 256 * 256 * 256 from rfl]
  simp only [<- Nat.div_div_eq_div_mul]
  rw [(d _ _ _ (by omega) (by omega)).1, (d _ _ _ (by omega) (by omega)).2]
  rw [(d _ _ _ (by omega) (by omega)).1, (d _ _ _ (by omega) (by omega)).2]
  rw [(d _ _ _ (by omega) (by omega)).1, (d _ _ _ (by omega) (by omega)).2]
  rw [(d _ _ _ (by omega) (by omega)).1, (d _ _ _ (by omega) (by omega)).2]
  rw [(d _ _ _ (by omega) (by omega)).1, (d _ _ _ (by omega) (by omega)).2]
  rw [(d _ _ _ (by omega) (by omega)).1, (d _ _ _ (by omega) (by omega)).2]
  rw [(d _ _ _ (by omega) (by omega)).1, (d _ _ _ (by omega) (by omega)).2]
  omega
theorem dig (a z m : Nat) (ha : a < m) : (a + m * z) / m = z := by
 rw [Nat.add_mul_div_left _ _ (by omega), Nat.div_eq_of_lt ha, Nat.zero_add]
theorem pe1 (c0 c1 c2 c3 c4 c5 c6 c7 : Nat) : c0 + 256 * c1 + 65536 * c2 + 16777216 * c3 + 4294967296 * c4 + 1099511627776 * c5 + 281474976710656 * c6 + 72057594037927936 * c7 = c0 + 256 * (c1 + 256 * c2 + 65536 * c3 + 16777216 * c4 + 4294967296 * c5 + 1099511627776 * c6 + 281474976710656 * c7) := by omega
theorem pe2 (c0 c1 c2 c3 c4 c5 c6 c7 : Nat) : c0 + 256 * c1 + 65536 * c2 + 16777216 * c3 + 4294967296 * c4 + 1099511627776 * c5 + 281474976710656 * c6 + 72057594037927936 * c7 + (c1 + 256 * c2 + 65536 * c3 + 16777216 * c4 + 4294967296 * c5 + 1099511627776 * c6 + 281474976710656 * c7) = ((c0 + c1) + 256 * (c1 + c2)) + 65536 * ((c2 + c3) + 256 * (c3 + c4) + 65536 * (c4 + c5) + 16777216 * (c5 + c6) + 4294967296 * (c6 + c7) + 1099511627776 * c7) := by omega
theorem pe3 (c0 c1 c2 c3 c4 c5 c6 c7 : Nat) : c0 + 256 * c1 + 65536 * c2 + 16777216 * c3 + 4294967296 * c4 + 1099511627776 * c5 + 281474976710656 * c6 + 72057594037927936 * c7 + (c1 + 256 * c2 + 65536 * c3 + 16777216 * c4 + 4294967296 * c5 + 1099511627776 * c6 + 281474976710656 * c7) + ((c2 + c3) + 256 * (c3 + c4) + 65536 * (c4 + c5) + 16777216 * (c5 + c6) + 4294967296 * (c6 + c7) + 1099511627776 * c7) = ((c0 + c1 + c2 + c3) + 256 * (c1 + c2 + c3 + c4) + 65536 * (c2 + c3 + c4 + c5) + 16777216 * (c3 + c4 + c5 + c6)) + 4294967296 * ((c4 + c5 + c6 + c7) + 256 * (c5 + c6 + c7) + 65536 * (c6 + c7) + 16777216 * (c7)) := by omega
theorem pe4 (c0 c1 c2 c3 c4 c5 c6 c7 : Nat) : c0 + 256 * c1 + 65536 * c2 + 16777216 * c3 + 4294967296 * c4 + 1099511627776 * c5 + 281474976710656 * c6 + 72057594037927936 * c7 + (c1 + 256 * c2 + 65536 * c3 + 16777216 * c4 + 4294967296 * c5 + 1099511627776 * c6 + 281474976710656 * c7) + ((c2 + c3) + 256 * (c3 + c4) + 65536 * (c4 + c5) + 16777216 * (c5 + c6) + 4294967296 * (c6 + c7) + 1099511627776 * c7) + ((c4 + c5 + c6 + c7) + 256 * (c5 + c6 + c7) + 65536 * (c6 + c7) + 16777216 * (c7)) = (c0 + c1 + c2 + c3 + c4 + c5 + c6 + c7) + 128 * (2 * (c1 + c2 + c3 + c4 + c5 + c6 + c7) + 512 * (c2 + c3 + c4 + c5 + c6 + c7) + 131072 * (c3 + c4 + c5 + c6 + c7) + 33554432 * (c4 + c5 + c6 + c7) + 8589934592 * (c5 + c6 + c7) + 2199023255552 * (c6 + c7) + 562949953421312 * (c7)) := by omega
theorem pb1 (c0 c1 c2 c3 c4 c5 c6 c7 : Nat) (h0 : c0 <= 8) (h1 : c1 <= 8) (h2 : c2 <= 8) (h3 : c3 <= 8) (h4 : c4 <= 8) (h5 : c5 <= 8) (h6 : c6 <= 8) (h7 : c7 <= 8) : c0 + 256 * c1 + 65536 * c2 + 16777216 * c3 + 4294967296 * c4 + 1099511627776 * c5 + 281474976710656 * c6 + 72057594037927936 * c7 + (c1 + 256 * c2 + 65536 * c3 + 16777216 * c4 + 4294967296 * c5 + 1099511627776 * c6 + 281474976710656 * c7) < 18446744073709551616 := by omega
theorem pb2 (c0 c1 c2 c3 c4 c5 c6 c7 : Nat) (h0 : c0 <= 8) (h1 : c1 <= 8) (h2 : c2 <= 8) (h3 : c3 <= 8) (h4 : c4 <= 8) (h5 : c5 <= 8) (h6 : c6 <= 8) (h7 : c7 <= 8) : c0 + 256 * c1 + 65536 * c2 + 16777216 * c3 + 4294967296 * c4 + 1099511627776 * c5 + 281474976710656 * c6 + 72057594037927936 * c7 + (c1 + 256 * c2 + 65536 * c3 + 16777216 * c4 + 4294967296 * c5 + 1099511627776 * c6 + 281474976710656 * c7) + ((c2 + c3) + 256 * (c3 + c4) + 65536 * (c4 + c5) + 16777216 * (c5 + c6) + 4294967296 * (c6 + c7) + 1099511627776 * c7) < 18446744073709551616 := by omega
theorem pb3 (c0 c1 c2 c3 c4 c5 c6 c7 : Nat) (h0 : c0 <= 8) (h1 : c1 <= 8) (h2 : c2 <= 8) (h3 : c3 <= 8) (h4 : c4 <= 8) (h5 : c5 <= 8) (h6 : c6 <= 8) (h7 : c7 <= 8) : c0 + 256 * c1 + 65536 * c2 + 16777216 * c3 + 4294967296 * c4 + 1099511627776 * c5 + 281474976710656 * c6 + 72057594037927936 * c7 + (c1 + 256 * c2 + 65536 * c3 + 16777216 * c4 + 4294967296 * c5 + 1099511627776 * c6 + 281474976710656 * c7) + ((c2 + c3) + 256 * (c3 + c4) + 65536 * (c4 + c5) + 16777216 * (c5 + c6) + 4294967296 * (c6 + c7) + 1099511627776 * c7) + ((c4 + c5 + c6 + c7) + 256 * (c5 + c6 + c7) + 65536 * (c6 + c7) + 16777216 * (c7)) < 9223372036854775808 := by omega
theorem pop_end (c0 c1 c2 c3 c4 c5 c6 c7 : Nat) (h0 : c0 <= 8) (h1 : c1 <= 8) (h2 : c2 <= 8) (h3 : c3 <= 8) (h4 : c4 <= 8) (h5 : c5 <= 8) (h6 : c6 <= 8) (h7 : c7 <= 8)
  (s : Nat) (hs : s = c0 + 256 * c1 + 65536 * c2 + 16777216 * c3 + 4294967296 * c4 + 1099511627776 * c5 + 281474976710656 * c6 + 72057594037927936 * c7)
  (t8 t9 t10 : Nat) (e8 : t8 = s + s / 256) (e9 : t9 = t8 + t8 / 65536) (e10 : t10 = t9 + t9 / 4294967296) :
  t8 < 18446744073709551616 /\ t9 < 18446744073709551616 /\ t10 < 9223372036854775808 /\ t10 % 128 = c0 + c1 + c2 + c3 + c4 + c5 + c6 + c7 := by
 have q8 : s / 256 = c1 + 256 * c2 + 65536 * c3 + 16777216 * c4 + 4294967296 * c5 + 1099511627776 * c6 + 281474976710656 * c7 := by rw [hs, pe1]; exact dig _ _ _ (by clear e8 e9 e10 hs; omega)
 rw [q8, hs] at e8
 have q9 : t8 / 65536 = (c2 + c3) + 256 * (c3 + c4) + 65536 * (c4 + c5) + 16777216 * (c5 + c6) + 4294967296 * (c6 + c7) + 1099511627776 * c7 := by rw [e8, pe2]; exact dig _ _ _ (by clear q8 e8 e9 e10 hs; omega)
 rw [q9, e8] at e9
 have q10 : t9 / 4294967296 = (c4 + c5 + c6 + c7) + 256 * (c5 + c6 + c7) + 65536 * (c6 + c7) + 16777216 * (c7) := by rw [e9, pe3]; exact dig _ _ _ (by clear q8 q9 e8 e9 e10 hs; omega)
 rw [q10, e9] at e10
 refine ⟨?_, ?_, ?_, ?_⟩
 ·rw [e8]; exact pb1 _ _ _ _ _ _ _ _ h0 h1 h2 h3 h4 h5 h6 h7
 ·rw [e9]; exact pb2 _ _ _ _ _ _ _ _ h0 h1 h2 h3 h4 h5 h6 h7
 ·rw [e10]; exact pb3 _ _ _ _ _ _ _ _ h0 h1 h2 h3 h4 h5 h6 h7
 ·rw [e10, pe4, Nat.add_mul_mod_self_left]
  exact Nat.mod_eq_of_lt (by clear q8 q9 q10 e8 e9 e10 hs; omega)
theorem ones_W (x : Nat) (hx : x < 18446744073709551616) :
  ∃ t3 t5 t6 t8 t9 t10 : Nat, t3 = (x / 2 &&& 6148914691236517205) + (x &&& 6148914691236517205) /\ t3 < 18446744073709551616 /\
   t5 = (t3 / 4 &&& 3689348814741910323) + (t3 &&& 3689348814741910323) /\ t5 < 18446744073709551616 /\
   t6 = t5 / 16 + t5 /\ t6 < 18446744073709551616 /\
   t8 = (t6 &&& 1085102592571150095) + (t6 &&& 1085102592571150095) / 256 /\ t8 < 18446744073709551616 /\
   t9 = t8 + t8 / 65536 /\ t9 < 18446744073709551616 /\ t10 = t9 + t9 / 4294967296 /\ t10 < 9223372036854775808 /\ t10 % 128 = cnt x.testBit 64 := by
 have m5 : mk16 5 16 = 6148914691236517205 := by decide
 have m3 : mk16 3 16 = 3689348814741910323 := by decide
 have hF : f5 16 (f3 16 x) = ((f3 16 x) / 4 &&& 3689348814741910323) + (f3 16 x &&& 3689348814741910323) := by rw [f5, m3]
 have hG : f3 16 x = (x / 2 &&& 6148914691236517205) + (x &&& 6148914691236517205) := by rw [f3, m5]
 have b3 : f3 16 x < 18446744073709551616 := by
  have i1 : x / 2 &&& 6148914691236517205 <= 6148914691236517205 := Nat.and_le_right
  have i2 : x &&& 6148914691236517205 <= 6148914691236517205 := Nat.and_le_right
  omega
 obtain ⟨t, e⟩ : ∃ t, t = f5 16 (f3 16 x) := ⟨_, rfl⟩
 have e0 := e
 have z : f5 0 (f3 0 (x / 16 / 16 / 16 / 16 / 16 / 16 / 16 / 16 / 16 / 16 / 16 / 16 / 16 / 16 / 16 / 16)) = 0 := by simp [f5, f3, mk16]
 rw [f35_step, f35_step, f35_step, f35_step, f35_step, f35_step, f35_step, f35_step, f35_step, f35_step, f35_step, f35_step, f35_step, f35_step, f35_step, f35_step, z] at e
 obtain ⟨c0, c1, c2, c3, c4, c5, c6, c7, r0, r1, r2, r3, r4, r5, r6, r7, l6, e6⟩ := pop_fold _ _ _ _ _ _ _ _ _ _ _ _ _ _ _ _ (pc_le _) (pc_le _) (pc_le _) (pc_le _) (pc_le _) (pc_le _) (pc_le _) (pc_le _)
  (pc_le _) (pc_le _) (pc_le _) (pc_le _) (pc_le _) (pc_le _) (pc_le _) (pc_le _) t e
 obtain ⟨q, n⟩ : ∃ q, q = cnt x.testBit 64 := ⟨_, rfl⟩
 have n0 := n
 rw [show 64 = 4 + 4 * 15 from rfl, cnt_nib, show 4 * 15 = 4 + 4 * 14 from rfl, cnt_nib, show 4 * 14 = 4 + 4 * 13 from rfl, cnt_nib, show 4 * 13 = 4 + 4 * 12 from rfl, cnt_nib,
  show 4 * 12 = 4 + 4 * 11 from rfl, cnt_nib, show 4 * 11 = 4 + 4 * 10 from rfl, cnt_nib, show 4 * 10 = 4 + 4 * 9 from rfl, cnt_nib, show 4 * 9 = 4 + 4 * 8 from rfl, cnt_nib,
  show 4 * 8 = 4 + 4 * 7 from rfl, cnt_nib, show 4 * 7 = 4 + 4 * 6 from rfl, cnt_nib, show 4 * 6 = 4 + 4 * 5 from rfl, cnt_nib, show 4 * 5 = 4 + 4 * 4 from rfl, cnt_nib,
  show 4 * 4 = 4 + 4 * 3 from rfl, cnt_nib, show 4 * 3 = 4 + 4 * 2 from rfl, cnt_nib, show 4 * 2 = 4 + 4 * 1 from rfl, cnt_nib, show 4 * 1 = 4 + 4 * 0 from rfl, cnt_nib] at n
 have pq := fun y => pc_le y
 obtain ⟨k8, k9, k10, k⟩ := pop_end c0 c1 c2 c3 c4 c5 c6 c7 (by rw [r0]; exact Nat.add_le_add (pq _) (pq _)) (by rw [r1]; exact Nat.add_le_add (pq _) (pq _)) (by rw [r2]; exact Nat.add_le_add (pq _) (pq _))
  (by rw [r3]; exact Nat.add_le_add (pq _) (pq _)) (by rw [r4]; exact Nat.add_le_add (pq _) (pq _)) (by rw [r5]; exact Nat.add_le_add (pq _) (pq _)) (by rw [r6]; exact Nat.add_le_add (pq _) (pq _))
  (by rw [r7]; exact Nat.add_le_add (pq _) (pq _)) _ e6 _ _ _ rfl rfl rfl
 rw [<- e0] at hF
 refine ⟨f3 16 x, t, _, _, _, _, hG, b3, hF, Nat.lt_of_le_of_lt (Nat.le_add_left _ _) l6, rfl, l6, rfl, k8, rfl, k9, rfl, k10, ?_⟩
 rw [k, <- n0, n, r0, r1, r2, r3, r4, r5, r6, r7]
 simp only [cnt, Nat.add_assoc, Nat.add_zero]
end Go.Vsi
end

section
set_option linter.unusedVariables false
set_option linter.unusedSimpArgs false
set_option synthInstance.maxSize 4096
namespace Go.Vsi
theorem Ev.impI {p : Prop} {P : Nat -> Prop} : Ev (fun n => p -> P n) ↔ (p -> Ev P) := by
 by_cases h : p
 ·simp only [h, true_imp_iff]
 ·simp only [h, false_imp_iff, iff_true]; exact ⟨0, fun _ _ => trivial⟩
theorem sEqual_lp {l l' : List Int} (hl : l.length <= 1099511627776) (hll : l.length = l'.length) : ∀ (ys ys' : List Int) (x : Int), l.drop x.toNat = ys -> l'.drop x.toNat = ys' -> 0 <= x -> ∀ (Kx : Nat -> Prop) (Kr : Nat -> Bool -> Prop),
  (Ev (fun n => Z31.l4 n l l' l.length x (Kx n) (Kr n)) ↔ if ys = ys' then Ev Kx else Ev (fun n => Kr n false))
 | [], [], x, h, h', h0, Kx, Kr => by
  have := drop_nil h h0
  refine Ev.suc.trans ?_
  simp (disch := omega) only [Z31.l4, Z31.l4.b, if_neg, decide_eq_true_eq, Ev.s0 Kx, if_true]
 | [], y' :: ys', x, h, h', h0, Kx, Kr => by
  have := drop_nil h h0; have := (drop_cons h' h0).1; omega
 | y :: ys, [], x, h, h', h0, Kx, Kr => by
  have := drop_nil h' h0; have := (drop_cons h h0).1; omega
 | y :: ys, y' :: ys', x, h, h', h0, Kx, Kr => by
  obtain ⟨e1, e2, e3⟩ := drop_cons h h0
  obtain ⟨_, f2, f3⟩ := drop_cons h' h0
  refine Ev.suc.trans ?_
  simp (disch := omega) only [Z31.l4, Z31.l4.b, if_pos, decide_eq_true_eq, Ev.s0 Kx, Ev.s1 Kr, grd_dec2, e2, f2, wrap64, Ev.iteI, Bool.not_eq_true', decide_eq_false_iff_not]
  rw [sEqual_lp hl hll ys ys' (x + 1) e3 f3 (by omega), Ev.s0 Kx, Ev.s1 Kr]
  simp only [List.cons.injEq]
  (repeat' split) <;> first | rfl | (exfalso; simp_all; done)
theorem sEqual_ev {l l' : List Int} (hl : l.length <= 1099511627776) (R : Nat -> Bool -> Prop) :
  Ev (fun n => Z31.c n l l' (R n)) ↔ Ev (fun n => R n (decide (l = l'))) := by
 refine Ev.suc.trans ?_
 simp (disch := omega) only [Z31.c, Z31.w, Ev.iteI, Bool.not_eq_true', decide_eq_false_iff_not, Ev.s1 R]
 split
 ·rw [decide_eq_false]; intro e; subst e; omega
 ·rw [sEqual_lp hl (by omega) l l' 0 rfl rfl (by omega), Ev.s1 R, Ev.s1 R]
  split
  ·rw [decide_eq_true ‹_›]
  ·rw [decide_eq_false ‹_›]
theorem same_ev {a b : Int} {l l' : List Int} (hl : l.length <= 1099511627776) (R : Nat -> Bool -> Prop) :
  Ev (fun n => Z2.c n a l b l' (R n)) ↔ Ev (fun n => R n (decide (a = b /\ l = l'))) := by
 refine Ev.suc.trans ?_
 simp (disch := omega) only [Z2.c, Z2.w, Ev.iteI, decide_eq_true_eq, sEqual_ev, Ev.s1 R]
 split
 ·simp_all
 ·rw [decide_eq_false]; simp_all
theorem sSame_lp {a b : Int} {l l' : List Int} (hl : l.length <= 1099511627776) (hll : l.length = l'.length) : ∀ (ys ys' : List Int) (x : Int), l.drop x.toNat = ys -> l'.drop x.toNat = ys' -> 0 <= x -> ∀ (Kx : Nat -> Prop) (Kr : Nat -> Bool -> Prop),
  (Ev (fun n => Z62.l4 n a l b l' x (Kx n) (Kr n)) ↔ if ys = ys' then Ev Kx else Ev (fun n => Kr n false))
 | [], [], x, h, h', h0, Kx, Kr => by
  have := drop_nil h h0
  refine Ev.suc.trans ?_
  simp (disch := omega) only [Z62.l4, Z62.l4.b, if_neg, decide_eq_true_eq, Ev.s0 Kx, if_true]
 | [], y' :: ys', x, h, h', h0, Kx, Kr => by
  have := drop_nil h h0; have := (drop_cons h' h0).1; omega
 | y :: ys, [], x, h, h', h0, Kx, Kr => by
  have := drop_nil h' h0; have := (drop_cons h h0).1; omega
 | y :: ys, y' :: ys', x, h, h', h0, Kx, Kr => by
  obtain ⟨e1, e2, e3⟩ := drop_cons h h0
  obtain ⟨_, f2, f3⟩ := drop_cons h' h0
  refine Ev.suc.trans ?_
  simp (disch := omega) only [Z62.l4, Z62.l4.b, if_pos, decide_eq_true_eq, Ev.s0 Kx, Ev.s1 Kr, grd_dec2, e2, f2, wrap64, Ev.iteI, Bool.not_eq_true', decide_eq_false_iff_not]
  rw [sSame_lp hl hll ys ys' (x + 1) e3 f3 (by omega), Ev.s0 Kx, Ev.s1 Kr]
  simp only [List.cons.injEq]
  (repeat' split) <;> first | rfl | (exfalso; simp_all; done)
theorem sSame_ev {a b : Int} {l l' : List Int} (hl : l.length <= 1099511627776) (R : Nat -> Bool -> Prop) :
  Ev (fun n => Z62.c n a l b l' (R n)) ↔ Ev (fun n => R n (decide (a = b /\ l = l'))) := by
 refine Ev.suc.trans ?_
 simp (disch := omega) only [Z62.c, Z62.w, Ev.iteI, Bool.not_eq_true', Bool.not_eq_false', decide_eq_true_eq, decide_eq_false_iff_not, Ev.s1 R]
 split
 ·split
  ·rw [decide_eq_false]; rintro ⟨_, e⟩; subst e; omega
  ·rw [sSame_lp hl (by omega) l l' 0 rfl rfl (by omega), Ev.s1 R, Ev.s1 R]
   split
   ·rw [decide_eq_true ⟨‹_›, ‹_›⟩]
   ·rw [decide_eq_false]; simp_all
 ·rw [decide_eq_false]; simp_all
theorem clone_ev {l : List Int} (hl : l.length <= 1099511627776) (R : Nat -> List Int -> Prop) :
  Ev (fun n => Z25.c n l (R n)) ↔ Ev (fun n => R n l) := by
 refine Ev.suc.trans ?_
 simp (disch := (simp only [List.length_nil]; omega)) only [Z25.c, Z25.w, Ev.andI, Ev.impI, grd_dec, List.nil_append, Ev.s1 R]
 constructor
 ·exact fun h => h.2
 ·refine fun h => ⟨fun e => ?_, h⟩
  rw [List.eq_nil_of_length_eq_zero e] at h; exact h
theorem cloneBits_ev {a : Int} {l : List Int} (hl : l.length <= 1099511627776) (R : Nat -> Int -> List Int -> Prop) :
  Ev (fun n => Z11.c n a l (R n)) ↔ Ev (fun n => R n a l) := by
 refine Ev.suc.trans ?_
 simp (disch := omega) only [Z11.c, Z11.w, Ev.andI, and_self, clone_ev, Ev.s2 R]
theorem copyBits_ev {a : Int} {l : List Int} (hl : l.length <= 1099511627776) (R : Nat -> Int -> List Int -> Prop) :
  Ev (fun n => Z64.c n a l (R n)) ↔ Ev (fun n => R n a l) := by
 refine Ev.suc.trans ?_
 simp (disch := (simp only [List.length_nil]; omega)) only [Z64.c, Z64.w, and_self, grd_dec, List.nil_append, Ev.s2 R]
theorem sameBarS_ev {a b c d e f : Int} {l l' : List Int} (hl : l.length <= 1099511627776) (R : Nat -> Bool -> Prop) :
  Ev (fun n => Z66.c n a b c l d e f l' (R n)) ↔ Ev (fun n => R n (decide (((a, b, c, l) : tBar) = (d, e, f, l')))) := by
 refine Ev.suc.trans ?_
 simp (disch := omega) only [Z66.c, Z66.w, Ev.iteI, decide_eq_true_eq, sSame_ev, Ev.s1 R, Prod.mk.injEq]
 (repeat' split) <;> simp_all
def putBar (out : List tBar) (b : tBar) : List tBar := if b ∈ out then out else out ++ [b]
theorem put_lp {l : List tBar} {a b c : Int} {d : List Int} (hl : l.length <= 1099511627776) : ∀ (ys : List tBar) (x : Int), l.drop x.toNat = ys -> 0 <= x -> (∀ y : tBar, y ∈ ys -> y.2.2.2.length <= 1099511627776) ->
  ∀ (Kx : Nat -> List tBar -> Int -> Int -> Int -> List Int -> Prop) (Kr : Nat -> List tBar -> Prop),
  (Ev (fun n => Z65.l2 n l a b c d x (Kx n) (Kr n)) ↔ if ((a, b, c, d) : tBar) ∈ ys then Ev (fun n => Kr n l) else Ev (fun n => Kx n l a b c d))
 | [], x, h, h0, hy, Kx, Kr => by
  have := drop_nil h h0
  refine Ev.suc.trans ?_
  simp (disch := omega) only [Z65.l2, Z65.l2.b, if_neg, decide_eq_true_eq, Ev.s5 Kx, List.not_mem_nil, if_false]
 | y :: ys, x, h, h0, hy, Kx, Kr => by
  obtain ⟨e1, e2, e3⟩ := drop_cons h h0
  have hy0 := hy y List.mem_cons_self
  refine Ev.suc.trans ?_
  simp (disch := omega) only [Z65.l2, Z65.l2.b, if_pos, decide_eq_true_eq, grd_dec2, e2, wrap64, sameBarS_ev, Ev.iteI, Ev.s1 Kr]
  rw [put_lp hl ys (x + 1) e3 (by omega) (fun y hy' => hy y (List.mem_cons_of_mem _ hy')), Ev.s5 Kx, Ev.s1 Kr]
  by_cases hq : ((a, b, c, d) : tBar) = y
  ·subst hq; simp
  ·rw [if_neg (fun e => hq e.symm)]
   simp only [List.mem_cons, hq, false_or]
theorem put_ev {l : List tBar} {a b c : Int} {d : List Int} (hl : l.length <= 1099511627776) (hy : ∀ y : tBar, y ∈ l -> y.2.2.2.length <= 1099511627776) (hd : d.length <= 1099511627776) (R : Nat -> List tBar -> Prop) :
  Ev (fun n => Z65.c n l a b c d (R n)) ↔ Ev (fun n => R n (putBar l (a, b, c, d))) := by
 refine Ev.suc.trans ?_
 simp (disch := (simp only [List.length_cons, List.length_nil]; omega)) only [Z65.c, Z65.w]
 rw [put_lp hl l 0 rfl (by omega) hy]
 simp (disch := first | omega | (simp only [List.length_cons, List.length_nil]; omega)) only [and_self, Ev.andI, copyBits_ev, grd_dec, Ev.s1 R, putBar]
 split <;> rfl
def Bars (l : List tBar) (k : Nat) : Prop := l.length <= k /\ ∀ y : tBar, y ∈ l -> y.2.2.2.length <= 1099511627776
theorem putBar_bars {l : List tBar} {k : Nat} {b : tBar} (h : Bars l k) (hb : b.2.2.2.length <= 1099511627776) : Bars (putBar l b) (k + 1) := by
 unfold putBar
 split
 ·exact ⟨by have := h.1; omega, h.2⟩
 ·refine ⟨by have := h.1; simp; omega, fun y hy => ?_⟩
  rcases List.mem_append.1 hy with hy | hy
  ·exact h.2 y hy
  ·rw [List.mem_singleton] at hy; subst hy; exact hb
end Go.Vsi
end

section
set_option linter.unusedVariables false
set_option linter.unusedSimpArgs false
set_option synthInstance.maxSize 4096
namespace Go.Vsi
def Wd (l : List Int) : Prop := ∀ x ∈ l, 0 <= x /\ x <= 18446744073709551615
def bitsOk (w : Int) (l : List Int) : Bool := decide (1 <= w /\ w <= 4096 /\ (l.length : Int) = (w + 63) / 64 /\ (w % 64 = 0 \/ rd l (l.length - 1) / 2 ^ (w % 64).toNat = 0))
theorem bit_div {x j : Nat} : x / 2 ^ j % 2 = (x.testBit j).toNat := by
 rw [Nat.testBit, Nat.shiftRight_eq_div_pow, Nat.one_and_eq_mod_two]
 rcases Nat.mod_two_eq_zero_or_one (x / 2 ^ j) with h | h <;> simp [h]
theorem l1In_ev {a b c : Int} (R : Nat -> Bool -> Prop) : Ev (fun n => Z49.c n a b c (R n)) ↔ Ev (fun n => R n (decide (b <= a /\ a <= c))) := by
 refine Ev.suc.trans ?_
 simp only [Z49.c, Z49.w, Ev.iteI, decide_eq_true_eq, Ev.s1 R, ge_iff_le]
 split
 ·refine ev_arg ?_; rw [decide_eq_decide]; omega
 ·refine ev_arg ?_; symm; rw [decide_eq_false_iff_not]; omega
theorem inside_ev {a b c : Int} (R : Nat -> Bool -> Prop) : Ev (fun n => Z13.c n a b c (R n)) ↔ Ev (fun n => R n (decide (b <= a /\ a <= c))) := by
 refine Ev.suc.trans ?_
 simp only [Z13.c, Z13.w, Ev.iteI, decide_eq_true_eq, Ev.s1 R, ge_iff_le]
 split
 ·refine ev_arg ?_; rw [decide_eq_decide]; omega
 ·refine ev_arg ?_; symm; rw [decide_eq_false_iff_not]; omega
theorem wordsFor_ev {a : Int} (h0 : 0 <= a) (h1 : a <= 1000000000) (R : Nat -> Int -> Prop) : Ev (fun n => Z21.c n a (R n)) ↔ Ev (fun n => R n ((a + 63) / 64)) := by
 refine Ev.suc.trans ?_
 simp (disch := omega) only [Z21.c, Z21.w, wrap64, tdivP, Ev.s1 R]
theorem l1Bit_ev {ws : List Nat} (hw : Below 18446744073709551616 ws) {k : Nat} (hk : k < 64 * ws.length) (hl : ws.length <= 4096) {w : Int} (R : Nat -> Int -> Prop) :
  Ev (fun n => Z46.c n w (W ws) k (R n)) ↔ Ev (fun n => R n ((bit ws k).toNat : Int)) := by
 refine Ev.suc.trans ?_
 have e : ibits .and .u64 ((ws.getD (k / 64) 0 >>> (k % 64) : Nat) : Int) 1 = (((bit ws k).toNat : Nat) : Int) := by
  have hx : ws.getD (k / 64) 0 >>> (k % 64) < 18446744073709551616 := by
   rw [Nat.shiftRight_eq_div_pow]; exact Nat.lt_of_le_of_lt (Nat.div_le_self _ _) (hw.getD (by decide) _)
  rw [show (1 : Int) = ((1 : Nat) : Int) from rfl, and_W hx (by decide), Nat.and_one_is_mod, Nat.shiftRight_eq_div_pow, bit_div]; rfl
 have e1 : Int.toNat ((k : Int) / 64) = k / 64 := by omega
 have e2 : Int.toNat ((k : Int) % 64) = k % 64 := by omega
 simp (disch := omega) only [Z46.c, Z46.w, W_len, tdivP, tmodP, wrap64, wrapU, grd_dec2, grd_dec, e1, e2, W_rd, shr_W, e]
 rw [wrap8 (by omega) (by cases bit ws k <;> simp), Ev.s1 R]
theorem specOk_lp {ws : List Nat} (hw : Below 18446744073709551616 ws) (hl : ws.length <= 4096) {w : Int} : ∀ (m k : Nat), k + m = 64 * ws.length -> ∃ b : Bool, (b = true ↔ ∀ i, k <= i -> bit ws i = false) /\
  ∀ (Kx : Nat -> Prop) (Kr : Nat -> Bool -> Prop), (Ev (fun n => Z38.l4 n w (W ws) k (Kx n) (Kr n)) ↔ if b = true then Ev Kx else Ev (fun n => Kr n false))
 | 0, k, h => by
  refine ⟨true, ⟨fun _ i hi => bit_out (by omega), fun _ => rfl⟩, fun Kx Kr => ?_⟩
  refine Ev.suc.trans ?_
  simp (disch := omega) only [Z38.l4, Z38.l4.b, W_len, wrap64, if_neg, decide_eq_true_eq, Ev.s0 Kx, if_true]
 | m + 1, k, h => by
  obtain ⟨b, hb, kk⟩ := specOk_lp hw hl (w := w) m (k + 1) (by omega)
  refine ⟨b && !bit ws k, ?_, fun Kx Kr => ?_⟩
  ·simp only [Bool.and_eq_true, Bool.not_eq_true', hb]
   constructor
   ·rintro ⟨h1, h2⟩ i hi
    rcases Nat.lt_or_eq_of_le hi with h' | rfl
    ·exact h1 i h'
    ·exact h2
   ·exact fun h => ⟨fun i hi => h i (by omega), h k (Nat.le_refl _)⟩
  ·refine Ev.suc.trans ?_
   have e : ((k : Int) + 1) = ((k + 1 : Nat) : Int) := by omega
   simp (disch := omega) only [Z38.l4, Z38.l4.b, W_len, wrap64, if_pos, decide_eq_true_eq, l1Bit_ev hw _ hl, Ev.iteI, Bool.not_eq_true', decide_eq_false_iff_not, e, kk, Ev.s0 Kx, Ev.s1 Kr]
   cases bit ws k <;> simp
theorem top_last {w : Int} {ws : List Nat} (hw : Below 18446744073709551616 ws) (h1 : 1 <= w) (h2 : (ws.length : Int) = (w + 63) / 64) (hr : w % 64 ≠ 0) :
  ws.getD (ws.length - 1) 0 >>> (w % 64).toNat = 0 ↔ ∀ i : Nat, w <= i -> bit ws i = false := by
 constructor
 ·intro h i hi
  by_cases ho : 64 * ws.length <= i
  ·exact bit_out ho
  ·have e1 : i / 64 = ws.length - 1 := by omega
   have := congrArg (fun y => Nat.testBit y (i % 64 - (w % 64).toNat)) h
   simp only [Nat.testBit_shiftRight, Nat.zero_testBit] at this
   rw [show (w % 64).toNat + (i % 64 - (w % 64).toNat) = i % 64 from by omega] at this
   rw [bit, e1]; exact this
 ·intro h
  apply Nat.eq_of_testBit_eq
  intro j
  rw [Nat.testBit_shiftRight, Nat.zero_testBit]
  by_cases hj : (w % 64).toNat + j < 64
  ·have := h (64 * (ws.length - 1) + ((w % 64).toNat + j)) (by omega)
   rw [bit, show (64 * (ws.length - 1) + ((w % 64).toNat + j)) / 64 = ws.length - 1 from by omega, show (64 * (ws.length - 1) + ((w % 64).toNat + j)) % 64 = (w % 64).toNat + j from by omega] at this
   exact this
  ·exact Nat.testBit_lt_two_pow (Nat.lt_of_lt_of_le (hw.getD (by decide) _) (Nat.pow_le_pow_right (n := 2) (by decide) (Nat.not_lt.mp hj)))
theorem bitsOk_W {w : Int} {ws : List Nat} (hw : Below 18446744073709551616 ws) : bitsOk w (W ws) = true ↔ 1 <= w /\ w <= 4096 /\ (ws.length : Int) = (w + 63) / 64 /\ ∀ i : Nat, w <= i -> bit ws i = false := by
 rw [bitsOk, decide_eq_true_eq, W_len, W_rd]
 refine ⟨fun ⟨h1, h2, h3, h4⟩ => ⟨h1, h2, h3, ?_⟩, fun ⟨h1, h2, h3, h4⟩ => ⟨h1, h2, h3, ?_⟩⟩
 ·by_cases h5 : w % 64 = 0
  ·exact fun i hi => bit_out (by omega)
  ·rcases h4 with h4 | h4
   ·exact absurd h4 h5
   ·rw [<- top_last hw h1 h3 h5, Nat.shiftRight_eq_div_pow]
    exact_mod_cast h4
 ·by_cases h5 : w % 64 = 0
  ·exact Or.inl h5
  ·have := (top_last hw h1 h3 h5).2 h4
   rw [Nat.shiftRight_eq_div_pow] at this
   exact Or.inr (by exact_mod_cast this)
theorem Wd.of {l : List Int} (h : Wd l) : ∃ ws, l = W ws /\ Below 18446744073709551616 ws := W_of fun x hx => ⟨(h x hx).1, by have := (h x hx).2; omega⟩
theorem specOk_ev {w : Int} {l : List Int} (hw : Wd l) (R : Nat -> Bool -> Prop) : Ev (fun n => Z38.c n w l (R n)) ↔ Ev (fun n => R n (bitsOk w l)) := by
 obtain ⟨ws, rfl, hB⟩ := hw.of
 have hiff := bitsOk_W (w := w) hB
 refine Ev.suc.trans ?_
 simp (disch := omega) only [Z38.c, Z38.w, l1In_ev, Ev.iteI, Bool.not_eq_false', Bool.not_eq_true', decide_eq_true_eq, decide_eq_false_iff_not, W_len]
 by_cases h1 : 1 <= w /\ w <= 4096
 ·rw [if_pos h1, wrap64 (x := w + 63) (by omega) (by omega), tdivP (by omega), wrap64 (by omega) (by omega)]
  by_cases h2 : (ws.length : Int) = (w + 63) / 64
  ·obtain ⟨b, hb, kk⟩ := specOk_lp hB (by omega) (w := w) (64 * ws.length - w.toNat) w.toNat (by omega)
   have e : ((w.toNat : Nat) : Int) = w := by omega
   rw [e] at kk
   rw [if_neg (by omega), kk, Ev.s1 R, Ev.s1 R]
   have : b = bitsOk w (W ws) := by
    rw [Bool.eq_iff_iff, hb, hiff]
    exact ⟨fun h => ⟨h1.1, h1.2, h2, fun i hi => h i (by omega)⟩, fun h i hi => h.2.2.2 i (by omega)⟩
   rw [<- this]
   cases b <;> rfl
  ·rw [if_pos h2, Ev.s1 R]
   have : bitsOk w (W ws) = false := by
    rw [Bool.eq_false_iff]; intro h; exact h2 (hiff.1 h).2.2.1
   rw [this]
 ·rw [if_neg h1, Ev.s1 R]
  have : bitsOk w (W ws) = false := by
   rw [Bool.eq_false_iff]; intro h; exact h1 ⟨(hiff.1 h).1, (hiff.1 h).2.1⟩
  rw [this]
theorem implOk_ev {w : Int} {l : List Int} (R : Nat -> Bool -> Prop) : Ev (fun n => Z1.c n w l (R n)) ↔ Ev (fun n => R n (bitsOk w l)) := by
 refine Ev.suc.trans ?_
 simp only [Z1.c, Z1.w, inside_ev, Ev.iteI, Ev.andI, Bool.not_eq_false', Bool.not_eq_true', decide_eq_true_eq, decide_eq_false_iff_not, Ev.s1 R, and_self]
 by_cases h1 : 1 <= w /\ w <= 4096
 ·rw [if_pos h1]
  simp (disch := omega) only [wordsFor_ev, Ev.iteI, Bool.not_eq_true', decide_eq_false_iff_not, Ev.s1 R]
  by_cases h2 : (l.length : Int) = (w + 63) / 64
  ·rw [if_neg (by omega)]
   simp (disch := omega) only [Z1.j0, tmodP, Ev.iteI, decide_eq_false_iff_not, wrap64, grd_dec2, grd_dec, Ev.s1 R]
   by_cases h3 : w % 64 = 0
   ·rw [if_neg (by omega), show bitsOk w l = true from by simp [bitsOk, h1, h2, h3]]
   ·rw [if_pos h3]
    refine ev_arg ?_
    have e1 : ((l.length : Int) - 1).toNat = l.length - 1 := by omega
    have e2 : Nat.min (w % 64).toNat 64 = (w % 64).toNat := Nat.min_eq_left (by omega)
    rw [e1, e2, fdivP (Int.le_of_lt (Int.pow_pos (by decide)))]
    simp [bitsOk, h1, h2, h3]
  ·rw [if_pos h2, show bitsOk w l = false from by simp [bitsOk, h2]]
 ·rw [if_neg h1, show bitsOk w l = false from by
   rw [Bool.eq_false_iff]; intro h; rw [bitsOk, decide_eq_true_eq] at h; exact h1 ⟨h.1, h.2.1⟩]
end Go.Vsi
end

section
set_option linter.unusedVariables false
set_option linter.unusedSimpArgs false
set_option synthInstance.maxSize 4096
namespace Go.Vsi
def widthsOk : List Int -> Bool
 | [] => true
 | x :: r => decide (1 <= x /\ x <= 4096) && widthsOk r
def barOk (w : List Int) (b : tBar) : Bool :=
 decide (0 <= b.1 /\ b.1 <= (w.length : Int) - 1) && if b.2.1 = -1 then bitsOk b.2.2.1 b.2.2.2 && decide (b.2.2.1 = rd w b.1.toNat)
 else decide (0 <= b.2.1 /\ b.2.1 <= (w.length : Int) - 1) && decide (b.2.1 ≠ b.1) && decide (rd w b.2.1.toNat = rd w b.1.toNat) && decide (b.2.2.1 = 0) && decide ((b.2.2.2.length : Int) = 0)
def barsOk (w : List Int) : List tBar -> Bool
 | [] => true
 | b :: r => barOk w b && barsOk w r
def graphOk (w : List Int) (l : List tBar) : Bool := decide (w.length <= 200) && decide (l.length <= 1000) && widthsOk w && barsOk w l
theorem barsOk_all {w : List Int} : ∀ {l : List tBar}, (!(l.any fun y => !(barOk w y))) = barsOk w l
 | [] => rfl
 | b :: r => by rw [List.any_cons, Bool.not_or, Bool.not_not, barsOk_all, barsOk]
theorem barsOk_mem {w : List Int} {y : tBar} : ∀ {l : List tBar}, barsOk w l = true -> y ∈ l -> barOk w y = true
 | [], _, h => by cases h
 | b :: r, h, hy => by
  rw [barsOk, Bool.and_eq_true] at h
  rcases List.mem_cons.1 hy with rfl | hy
  ·exact h.1
  ·exact barsOk_mem h.2 hy
theorem barOk_ev {w : List Int} {y : tBar} (hw : w.length <= 1099511627776) (R : Nat -> Bool -> Prop) :
  Ev (fun n => Z10.c n w y.1 y.2.1 y.2.2.1 y.2.2.2 (R n)) ↔ Ev (fun n => R n (barOk w y)) := by
 refine Ev.suc.trans ?_
 simp (disch := omega) only [Z10.c, Z10.w, wrap64, inside_ev, Ev.iteI, implOk_ev, Bool.not_eq_true', decide_eq_true_eq, decide_eq_false_iff_not, Ev.s1 R, barOk]
 by_cases h1 : 0 <= y.1 /\ y.1 <= (w.length : Int) - 1
 rotate_left
 ·rw [if_pos h1]; simp [h1]
 rw [if_neg (fun h => h h1)]
 by_cases h2 : y.2.1 = -1
 ·rw [if_pos h2, if_pos h2]
  by_cases h3 : bitsOk y.2.2.1 y.2.2.2 = true
  ·rw [if_pos h3]
   simp (disch := omega) only [grd_dec2, Ev.s1 R]
   simp [h1, h3]
  ·rw [if_neg h3]; simp [h3]
 rw [if_neg h2, if_neg h2]
 by_cases h3 : 0 <= y.2.1 /\ y.2.1 <= (w.length : Int) - 1
 rotate_left
 ·rw [if_neg h3]; simp [h3]
 rw [if_pos h3]
 by_cases h4 : y.2.1 = y.1
 ·rw [if_neg (fun h => h h4)]; simp [h4]
 rw [if_pos h4]
 simp (disch := omega) only [grd_dec2, Ev.iteI, decide_eq_true_eq, Ev.s1 R]
 by_cases h5 : rd w y.2.1.toNat = rd w y.1.toNat
 rotate_left
 ·rw [if_neg h5]; simp [h5]
 rw [if_pos h5]
 by_cases h6 : y.2.2.1 = 0
 ·rw [if_pos h6]; simp [h1, h3, h4, h5, h6]
 ·rw [if_neg h6]; simp [h6]
theorem graph1_ev {w : List Int} {bs : List tBar} {y : tBar} (hw : w.length <= 1099511627776) (R : Nat -> Bool -> Prop) :
  Ev (fun n => Z8.c n y.1 y.2.1 y.2.2.1 y.2.2.2 (w, bs) (R n)) ↔ Ev (fun n => R n (!(barOk w y))) := by
 refine Ev.suc.trans ?_
 simp only [Z8.c, Z8.w]
 rw [barOk_ev hw, Ev.s1 R]
theorem Z33_lp {l : List tBar} {w : List Int} {bs : List tBar} (hl : l.length <= 1099511627776) : ∀ (ys : List tBar) (x : Int), l.drop x.toNat = ys -> 0 <= x -> (∀ y : tBar, y ∈ ys -> w.length <= 1099511627776) ->
  ∀ (Kx : Nat -> Prop) (Kr : Nat -> Int -> Prop),
  (Ev (fun n => Z33.l2 n l (w, bs) l.length x (Kx n) (Kr n)) ↔ if firstIx (fun y => !(barOk w y)) ys x < 0 then Ev Kx else Ev (fun n => Kr n (firstIx (fun y => !(barOk w y)) ys x)))
 | [], x, h, h0, hy, Kx, Kr => by
  have := drop_nil h h0
  rw [firstIx, if_pos (by decide)]
  refine Ev.suc.trans ?_
  simp (disch := omega) only [Z33.l2, Z33.l2.b, if_neg, decide_eq_true_eq, Ev.s0 Kx]
 | y :: ys, x, h, h0, hy, Kx, Kr => by
  obtain ⟨e1, e2, e3⟩ := drop_cons h h0
  have hy0 := hy y List.mem_cons_self
  refine Ev.suc.trans ?_
  simp (disch := first | omega | omega) only [Z33.l2, Z33.l2.b, if_pos, decide_eq_true_eq, grd_dec2, e2, wrap64, Ev.s1 Kr, graph1_ev, Ev.iteI]
  rw [Z33_lp hl ys (x + 1) e3 (by omega) (fun y hy' => hy y (List.mem_cons_of_mem _ hy')), Ev.s0 Kx, Ev.s1 Kr]
  simp only [firstIx, decide_eq_true_eq]
  split
  ·rw [if_neg (by omega)]
  ·rfl
theorem Z33_ev {l : List tBar} {w : List Int} {bs : List tBar} (hl : l.length <= 1099511627776) (hy : ∀ y : tBar, y ∈ l -> w.length <= 1099511627776) (R : Nat -> Int -> Prop) :
  Ev (fun n => Z33.c n l (w, bs) (R n)) ↔ Ev (fun n => R n (firstIx (fun y => !(barOk w y)) l 0)) := by
 refine Ev.suc.trans ?_
 simp only [Z33.c, Z33.w]
 rw [Z33_lp hl l 0 rfl (by omega) hy, Ev.s1 R, Ev.s1 R]
 split
 ·rw [firstIx_neg (by omega) ‹_›]
 ·rfl
theorem Z27_ev {l : List tBar} {w : List Int} {bs : List tBar} (hl : l.length <= 1099511627776) (hy : ∀ y : tBar, y ∈ l -> w.length <= 1099511627776) (R : Nat -> Bool -> Prop) :
  Ev (fun n => Z27.c n l (w, bs) (R n)) ↔ Ev (fun n => R n (l.any fun y => !(barOk w y))) := by
 refine Ev.suc.trans ?_
 simp only [Z27.c, Z27.w]
 rw [Z33_ev hl hy, Ev.s1 R, firstIx_any (by omega)]
theorem graphW_lp {w w' : List Int} {bs : List tBar} (hw : w.length <= 1099511627776) : ∀ (ys : List Int) (x : Int), w.drop x.toNat = ys -> 0 <= x -> ∀ (Kx : Nat -> List Int -> List tBar -> Prop) (Kr : Nat -> Bool -> Prop),
  (Ev (fun n => Z7.l4 n w w.length w' bs x (Kx n) (Kr n)) ↔ if widthsOk ys = true then Ev (fun n => Kx n w' bs) else Ev (fun n => Kr n false))
 | [], x, h, h0, Kx, Kr => by
  have := drop_nil h h0
  refine Ev.suc.trans ?_
  simp (disch := omega) only [Z7.l4, Z7.l4.b, if_neg, decide_eq_true_eq, Ev.s2 Kx, widthsOk, if_true]
 | y :: ys, x, h, h0, Kx, Kr => by
  obtain ⟨e1, e2, e3⟩ := drop_cons h h0
  refine Ev.suc.trans ?_
  simp (disch := omega) only [Z7.l4, Z7.l4.b, if_pos, decide_eq_true_eq, grd_dec2, e2, wrap64, inside_ev, Ev.iteI, Bool.not_eq_true', decide_eq_false_iff_not, Ev.s1 Kr]
  rw [graphW_lp hw ys (x + 1) e3 (by omega), Ev.s2 Kx, Ev.s1 Kr]
  simp only [widthsOk, Bool.and_eq_true, decide_eq_true_eq]
  by_cases h2 : 1 <= y /\ y <= 4096
  ·rw [if_neg (fun h => h h2)]; simp only [h2, and_self, true_and]
  ·rw [if_pos h2, if_neg (fun h => h2 h.1)]
theorem graphOk_ev {w : List Int} {l : List tBar} (R : Nat -> Bool -> Prop) :
  Ev (fun n => Z7.c n w l (R n)) ↔ Ev (fun n => R n (graphOk w l)) := by
 refine Ev.suc.trans ?_
 simp only [Z7.c, Z7.w, Z7.j0, Ev.iteI, decide_eq_true_eq, decide_eq_false_iff_not, Bool.true_eq_false, if_true, Ev.s1 R, graphOk]
 by_cases h1 : w.length <= 200
 rotate_left
 ·rw [if_neg (by omega)]; simp [h1]
 rw [if_pos (by omega)]
 by_cases h2 : l.length <= 1000
 rotate_left
 ·rw [if_pos (by omega)]; simp [h2]
 rw [if_neg (by omega), graphW_lp (by omega) w 0 rfl (by omega), Ev.s1 R]
 simp only [h1, h2, decide_true, Bool.true_and]
 by_cases h3 : widthsOk w = true
 ·rw [if_pos h3, Z27_ev (by omega) (fun y _ => by omega), Ev.s1 R, barsOk_all, h3, Bool.true_and]
 ·rw [if_neg h3, show widthsOk w = false from by simpa using h3, Bool.false_and]
theorem noBits_ev {a : Int} {l : List Int} (R : Nat -> Bool -> Prop) :
  Ev (fun n => Z61.c n a l (R n)) ↔ Ev (fun n => R n (decide (a = 0) && decide ((l.length : Int) = 0))) := by
 refine Ev.suc.trans ?_
 simp only [Z61.c, Z61.w, Ev.iteI, decide_eq_true_eq, Ev.s1 R]
 split <;> simp_all
theorem graphSW_lp {w : List Int} {bs : List tBar} (hw : w.length <= 1099511627776) : ∀ (ys : List Int) (x : Int), w.drop x.toNat = ys -> 0 <= x -> ∀ (Kx : Nat -> Int -> List Int -> List tBar -> Prop) (Kr : Nat -> Bool -> Prop),
  (Ev (fun n => Z41.l5 n w.length w bs x (Kx n) (Kr n)) ↔ if widthsOk ys = true then Ev (fun n => Kx n w.length w bs) else Ev (fun n => Kr n false))
 | [], x, h, h0, Kx, Kr => by
  have := drop_nil h h0
  refine Ev.suc.trans ?_
  simp (disch := omega) only [Z41.l5, Z41.l5.b, if_neg, decide_eq_true_eq, Ev.s3 Kx, widthsOk, if_true]
 | y :: ys, x, h, h0, Kx, Kr => by
  obtain ⟨e1, e2, e3⟩ := drop_cons h h0
  refine Ev.suc.trans ?_
  simp (disch := omega) only [Z41.l5, Z41.l5.b, if_pos, decide_eq_true_eq, grd_dec2, e2, wrap64, l1In_ev, Ev.iteI, Bool.not_eq_true', decide_eq_false_iff_not, Ev.s1 Kr]
  rw [graphSW_lp hw ys (x + 1) e3 (by omega), Ev.s3 Kx, Ev.s1 Kr]
  simp only [widthsOk, Bool.and_eq_true, decide_eq_true_eq]
  by_cases h2 : 1 <= y /\ y <= 4096
  ·rw [if_neg (fun h => h h2)]; simp only [h2, and_self, true_and]
  ·rw [if_pos h2, if_neg (fun h => h2 h.1)]
theorem gq14_ev {a b c d e : Int} {f : Bool} {w l : List Int} {bs : List tBar} (R : Nat -> Bool -> Prop) (S : Nat -> Int -> Int -> List Int -> List tBar -> Int -> Int -> Int -> List Int -> Prop) :
  Ev (fun n => Z41.q14 n a b f w bs c d e l (R n) (S n)) ↔ if f = true then Ev (fun n => R n false) else Ev (fun n => S n a b w bs c d e l) := by
 refine Ev.suc.trans ?_
 simp only [Z41.q14, Z41.q14.b, Ev.iteI, Ev.s1 R, Ev.s8 S]
def barRest (w : List Int) (a b c : Int) (l : List Int) : Bool :=
 if b = -1 then bitsOk c l && decide (c = rd w a.toNat) else decide (rd w b.toNat = rd w a.toNat) && decide (c = 0) && decide ((l.length : Int) = 0)
theorem gq15_ev {a b c d e : Int} {w l : List Int} {bs : List tBar} (hl : Wd l) (h1 : 0 <= c /\ c <= (w.length : Int) - 1) (h2 : -1 <= d /\ d <= (w.length : Int) - 1) (R : Nat -> Bool -> Prop) (S : Nat -> Int -> Int -> List Int -> List tBar -> Prop) :
  Ev (fun n => Z41.q15 n a b w bs c d e l (R n) (S n)) ↔ if barRest w c d e l = true then Ev (fun n => S n a b w bs) else Ev (fun n => R n false) := by
 refine Ev.suc.trans ?_
 by_cases h3 : d = -1
 ·have s1 := fun (R : Nat -> Bool -> Prop) => specOk_ev (w := e) hl R
  simp (disch := omega) only [Z41.q15, Z41.q15.b, Z41.j0, if_neg, if_pos, decide_eq_true_eq, s1, Ev.iteI, Bool.not_eq_false', grd_dec2, Bool.not_eq_true', decide_eq_false_iff_not, Ev.s1 R, Ev.s4 S, barRest, Bool.and_eq_true]
  by_cases h4 : bitsOk e l = true
  ·rw [if_pos h4]; simp only [h4, true_and, ite_not]
  ·rw [if_neg h4, if_neg (fun h => h4 h.1)]
 ·simp (disch := omega) only [Z41.q15, Z41.q15.b, Z41.j0, if_neg, if_pos, decide_eq_true_eq, noBits_ev, Ev.iteI, Bool.not_eq_false', grd_dec2, Bool.not_eq_true', decide_eq_false_iff_not, Ev.s1 R, Ev.s4 S, barRest, Bool.and_eq_true]
  by_cases h4 : rd w d.toNat = rd w c.toNat
  ·rw [if_pos h4]
   by_cases h5 : (decide (e = 0) && decide ((l.length : Int) = 0)) = true
   ·rw [h5]
    rw [Bool.and_eq_true, decide_eq_true_eq, decide_eq_true_eq] at h5
    simp [h4, h5]
   ·rw [show (decide (e = 0) && decide ((l.length : Int) = 0)) = false from by simpa using h5]
    rw [Bool.and_eq_true, decide_eq_true_eq, decide_eq_true_eq] at h5
    rw [if_pos rfl, if_neg (fun h => h5 ⟨h.1.2, h.2⟩)]
  ·rw [if_neg h4, if_neg (fun h => h4 h.1.1)]
theorem barOk_rest {w : List Int} {b : tBar} : barOk w b = (decide (0 <= b.1 /\ b.1 <= (w.length : Int) - 1) && decide (-1 <= b.2.1 /\ b.2.1 <= (w.length : Int) - 1) && decide (b.1 ≠ b.2.1) && barRest w b.1 b.2.1 b.2.2.1 b.2.2.2) := by
 unfold barOk barRest
 by_cases h1 : 0 <= b.1 /\ b.1 <= (w.length : Int) - 1
 rotate_left
 ·simp only [h1, decide_false, Bool.false_and]
 by_cases h2 : b.2.1 = -1
 ·rw [if_pos h2, if_pos h2, decide_eq_true (p := -1 <= b.2.1 /\ b.2.1 <= (w.length : Int) - 1) (by omega), decide_eq_true (p := b.1 ≠ b.2.1) (by omega)]
  simp only [Bool.and_true]
 ·rw [if_neg h2, if_neg h2]
  by_cases h3 : 0 <= b.2.1 /\ b.2.1 <= (w.length : Int) - 1
  ·rw [decide_eq_true (p := -1 <= b.2.1 /\ b.2.1 <= (w.length : Int) - 1) (by omega), decide_eq_true h3]
   simp only [h1, and_self, decide_true, Bool.true_and, Bool.and_assoc, ne_eq]
   by_cases h4 : b.2.1 = b.1
   ·simp [h4]
   ·have h4' : ¬ b.1 = b.2.1 := fun h => h4 h.symm
    simp [h4, h4']
  ·rw [decide_eq_false h3, decide_eq_false (p := -1 <= b.2.1 /\ b.2.1 <= (w.length : Int) - 1) (by omega)]
   simp
theorem graphSB_lp {w : List Int} {l : List tBar} (hw : w.length <= 1099511627776) (hl : l.length <= 1099511627776) : ∀ (ys : List tBar) (x : Int), l.drop x.toNat = ys -> 0 <= x -> (∀ y : tBar, y ∈ ys -> Wd y.2.2.2) -> ∀ (R : Nat -> Bool -> Prop),
  (Ev (fun n => Z41.l10 n w.length x w l (R n true) (R n)) ↔ Ev (fun n => R n (barsOk w ys)))
 | [], x, h, h0, hy, R => by
  have := drop_nil h h0
  refine Ev.suc.trans ?_
  simp (disch := omega) only [Z41.l10, Z41.l10.b, if_neg, decide_eq_true_eq, Ev.s1 R, barsOk]
 | y :: ys, x, h, h0, hy, R => by
  obtain ⟨e1, e2, e3⟩ := drop_cons h h0
  have ih := fun (R : Nat -> Bool -> Prop) => graphSB_lp (w := w) hw hl ys (x + 1) e3 (by omega) (fun z hz => hy z (List.mem_cons_of_mem _ hz)) R
  refine Ev.suc.trans ?_
  rw [barsOk, barOk_rest]
  simp (disch := omega) only [Z41.l10, Z41.l10.b, if_pos, decide_eq_true_eq, grd_dec2, e2, wrap64, l1In_ev, Ev.iteI, Bool.not_eq_false']
  by_cases h1 : 0 <= y.1 /\ y.1 <= (w.length : Int) - 1
  rotate_left
  ·rw [if_neg h1, gq14_ev, if_pos rfl, Ev.s1 R]; simp [h1]
  rw [if_pos h1]
  by_cases h2 : -1 <= y.2.1 /\ y.2.1 <= (w.length : Int) - 1
  rotate_left
  ·rw [if_neg h2, gq14_ev, if_pos rfl, Ev.s1 R]; simp [h2]
  rw [if_pos h2, gq14_ev]
  simp only [decide_eq_true_eq]
  by_cases h3 : y.1 = y.2.1
  ·rw [if_pos h3, Ev.s1 R]; simp [h3]
  rw [if_neg h3, gq15_ev (hy y List.mem_cons_self) h1 h2]
  simp (disch := omega) only [wrap64]
  rw [ih (fun n => R (n + 1)), Ev.s1 R, Ev.s1 R]
  simp only [h1, h2, h3, and_self, decide_true, Bool.true_and, ne_eq, not_false_eq_true]
  cases barRest w y.1 y.2.1 y.2.2.1 y.2.2.2 <;> simp
theorem graphOkS_ev {w : List Int} {l : List tBar} (hy : ∀ y : tBar, y ∈ l -> Wd y.2.2.2) (R : Nat -> Bool -> Prop) :
  Ev (fun n => Z41.c n w l (R n)) ↔ Ev (fun n => R n (graphOk w l)) := by
 refine Ev.suc.trans ?_
 simp only [Z41.c, Z41.w, Z41.j1, Ev.iteI, decide_eq_true_eq, decide_eq_false_iff_not, Bool.true_eq_false, if_true, Ev.s1 R, graphOk]
 by_cases h1 : w.length <= 200
 rotate_left
 ·rw [if_neg (by omega)]; simp [h1]
 rw [if_pos (by omega)]
 by_cases h2 : l.length <= 1000
 rotate_left
 ·rw [if_pos (by omega)]; simp [h2]
 rw [if_neg (by omega), graphSW_lp (by omega) w 0 rfl (by omega), Ev.s1 R]
 simp only [h1, h2, decide_true, Bool.true_and]
 by_cases h3 : widthsOk w = true
 ·rw [if_pos h3, graphSB_lp (by omega) (by omega) l 0 rfl (by omega) hy (fun n => R (n + 1)), Ev.s1 R, h3, Bool.true_and]
 ·rw [if_neg h3, show widthsOk w = false from by simpa using h3, Bool.false_and]
end Go.Vsi
end

section
set_option linter.unusedVariables false
set_option linter.unusedSimpArgs false
set_option synthInstance.maxSize 4096
namespace Go.Vsi
def otherOf (ws : List tBits) (y : tBar) : tBits := if y.2.1 = -1 then y.2.2 else rd ws y.2.1.toNat
def sameIn (ws : List tBits) (y : tBar) : Bool := decide ((rd ws y.1.toNat).1 = (otherOf ws y).1 /\ (rd ws y.1.toNat).2 = (otherOf ws y).2)
def noneSame (ws : List tBits) : List tBar -> Bool
 | [] => true
 | y :: r => !(sameIn ws y) && noneSame ws r
def wordsGo (w : List Int) : List tBits -> Int -> Bool
 | [], _ => true
 | b :: r, x => bitsOk b.1 b.2 && decide (b.1 = rd w x.toNat) && wordsGo w r (x + 1)
def colourOk (w : List Int) (l : List tBar) (ws : List tBits) : Bool := graphOk w l && decide ((ws.length : Int) = w.length) && wordsGo w ws 0 && noneSame ws l
theorem noneSame_any {ws : List tBits} : ∀ {l : List tBar}, (!(l.any fun y => sameIn ws y)) = noneSame ws l
 | [] => rfl
 | b :: r => by rw [List.any_cons, Bool.not_or, noneSame_any, noneSame]
def InW (ws : List tBits) (y : tBar) : Prop := 0 <= y.1 /\ y.1 < ws.length /\ (y.2.1 = -1 \/ 0 <= y.2.1 /\ y.2.1 < ws.length) /\ (rd ws y.1.toNat).2.length <= 1099511627776
theorem inW_of {w : List Int} {l : List tBar} {ws : List tBits} (h : graphOk w l = true) (hl : (ws.length : Int) = w.length) (hw : ∀ z ∈ ws, z.2.length <= 1099511627776) : ∀ y : tBar, y ∈ l -> InW ws y := fun y hy => by
 rw [graphOk, Bool.and_eq_true] at h
 have hb := barsOk_mem h.2 hy
 rw [barOk_rest, Bool.and_eq_true, Bool.and_eq_true, Bool.and_eq_true, decide_eq_true_eq, decide_eq_true_eq] at hb
 have h1 := hb.1.1.1; have h2 := hb.1.1.2
 refine ⟨by omega, by omega, by omega, ?_⟩
 apply hw
 rw [rd, List.getD_eq_getElem?_getD, List.getElem?_eq_getElem (by omega)]
 exact List.getElem_mem _
theorem colour1_ev {ws : List tBits} {y : tBar} (h : InW ws y) (R : Nat -> Bool -> Prop) :
  Ev (fun n => Z5.c n y.1 y.2.1 y.2.2.1 y.2.2.2 ws (R n)) ↔ Ev (fun n => R n (sameIn ws y)) := by
 obtain ⟨h1, h2, h3, h4⟩ := h
 refine Ev.suc.trans ?_
 simp (disch := omega) only [Z5.c, Z5.w, Ev.iteI, decide_eq_true_eq]
 by_cases h5 : y.2.1 = -1
 ·rw [if_pos h5]
  simp (disch := omega) only [grd_dec2, same_ev, Ev.s1 R, sameIn, otherOf, h5, if_true]
 ·rw [if_neg h5]
  simp (disch := omega) only [grd_dec2, same_ev, Ev.s1 R, sameIn, otherOf, h5, if_false]
theorem Z32_lp {l : List tBar} {ws : List tBits} (hl : l.length <= 1099511627776) : ∀ (ys : List tBar) (x : Int), l.drop x.toNat = ys -> 0 <= x -> (∀ y : tBar, y ∈ ys -> InW ws y) ->
  ∀ (Kx : Nat -> Prop) (Kr : Nat -> Int -> Prop),
  (Ev (fun n => Z32.l2 n l ws l.length x (Kx n) (Kr n)) ↔ if firstIx (fun y => sameIn ws y) ys x < 0 then Ev Kx else Ev (fun n => Kr n (firstIx (fun y => sameIn ws y) ys x)))
 | [], x, h, h0, hy, Kx, Kr => by
  have := drop_nil h h0
  rw [firstIx, if_pos (by decide)]
  refine Ev.suc.trans ?_
  simp (disch := omega) only [Z32.l2, Z32.l2.b, if_neg, decide_eq_true_eq, Ev.s0 Kx]
 | y :: ys, x, h, h0, hy, Kx, Kr => by
  obtain ⟨e1, e2, e3⟩ := drop_cons h h0
  have hy0 := hy y List.mem_cons_self
  refine Ev.suc.trans ?_
  simp (disch := first | omega | assumption) only [Z32.l2, Z32.l2.b, if_pos, decide_eq_true_eq, grd_dec2, e2, wrap64, Ev.s1 Kr, colour1_ev, Ev.iteI]
  rw [Z32_lp hl ys (x + 1) e3 (by omega) (fun y hy' => hy y (List.mem_cons_of_mem _ hy')), Ev.s0 Kx, Ev.s1 Kr]
  simp only [firstIx, decide_eq_true_eq]
  split
  ·rw [if_neg (by omega)]
  ·rfl
theorem Z32_ev {l : List tBar} {ws : List tBits} (hl : l.length <= 1099511627776) (hy : ∀ y : tBar, y ∈ l -> InW ws y) (R : Nat -> Int -> Prop) :
  Ev (fun n => Z32.c n l ws (R n)) ↔ Ev (fun n => R n (firstIx (fun y => sameIn ws y) l 0)) := by
 refine Ev.suc.trans ?_
 simp only [Z32.c, Z32.w]
 rw [Z32_lp hl l 0 rfl (by omega) hy, Ev.s1 R, Ev.s1 R]
 split
 ·rw [firstIx_neg (by omega) ‹_›]
 ·rfl
theorem Z26_ev {l : List tBar} {ws : List tBits} (hl : l.length <= 1099511627776) (hy : ∀ y : tBar, y ∈ l -> InW ws y) (R : Nat -> Bool -> Prop) :
  Ev (fun n => Z26.c n l ws (R n)) ↔ Ev (fun n => R n (l.any fun y => sameIn ws y)) := by
 refine Ev.suc.trans ?_
 simp only [Z26.c, Z26.w]
 rw [Z32_ev hl hy, Ev.s1 R, firstIx_any (by omega)]
theorem colourW_lp {w : List Int} {bs : List tBar} {ws ws' : List tBits} (hl : (ws.length : Int) = w.length) (hw : ws.length <= 1099511627776) : ∀ (ys : List tBits) (x : Int), ws.drop x.toNat = ys -> 0 <= x -> ∀ (Kx : Nat -> List Int -> List tBar -> List tBits -> Prop) (Kr : Nat -> Bool -> Prop),
  (Ev (fun n => Z4.l4 n ws ws.length w bs ws' x (Kx n) (Kr n)) ↔ if wordsGo w ys x = true then Ev (fun n => Kx n w bs ws') else Ev (fun n => Kr n false))
 | [], x, h, h0, Kx, Kr => by
  have := drop_nil h h0
  refine Ev.suc.trans ?_
  simp (disch := omega) only [Z4.l4, Z4.l4.b, if_neg, decide_eq_true_eq, Ev.s3 Kx, wordsGo, if_true]
 | y :: ys, x, h, h0, Kx, Kr => by
  obtain ⟨e1, e2, e3⟩ := drop_cons h h0
  refine Ev.suc.trans ?_
  simp (disch := omega) only [Z4.l4, Z4.l4.b, if_pos, decide_eq_true_eq, grd_dec2, e2, wrap64, implOk_ev, Ev.iteI, Bool.not_eq_true', Bool.not_eq_false', decide_eq_false_iff_not, Ev.s1 Kr]
  rw [colourW_lp hl hw ys (x + 1) e3 (by omega), Ev.s3 Kx, Ev.s1 Kr]
  simp only [wordsGo, Bool.and_eq_true, decide_eq_true_eq]
  by_cases h1 : bitsOk y.1 y.2 = true
  ·rw [if_pos h1]
   by_cases h2 : y.1 = rd w x.toNat
   ·rw [if_neg (fun h => h h2)]; simp only [h1, <- h2, true_and]
   ·rw [if_pos h2, if_neg (fun h => h2 h.1.2)]
  ·rw [if_neg h1, if_neg (fun h => h1 h.1.1)]
theorem colourOk_ev {w : List Int} {l : List tBar} {ws : List tBits} (hz : ws.length <= 1099511627776) (hw : ∀ z ∈ ws, z.2.length <= 1099511627776) (R : Nat -> Bool -> Prop) :
  Ev (fun n => Z4.c n w l ws (R n)) ↔ Ev (fun n => R n (colourOk w l ws)) := by
 refine Ev.suc.trans ?_
 simp only [Z4.c, Z4.w, Z4.j0, graphOk_ev, Ev.iteI, Bool.not_eq_true', Bool.not_eq_false', decide_eq_true_eq, decide_eq_false_iff_not, if_true, Ev.s1 R, colourOk]
 by_cases h1 : graphOk w l = true
 rotate_left
 ·rw [if_neg h1, show graphOk w l = false from by simpa using h1]; simp
 rw [if_pos h1]
 by_cases h2 : (ws.length : Int) = w.length
 rotate_left
 ·rw [if_pos h2, decide_eq_false h2]; simp
 rw [if_neg (fun h => h h2), colourW_lp h2 hz ws 0 rfl (by omega), Ev.s1 R, decide_eq_true h2, h1]
 simp only [Bool.true_and]
 by_cases h3 : wordsGo w ws 0 = true
 ·have hl : l.length <= 1099511627776 := by
   rw [graphOk, Bool.and_eq_true, Bool.and_eq_true, Bool.and_eq_true, decide_eq_true_eq, decide_eq_true_eq] at h1
   have := h1.1.1.2; omega
  rw [if_pos h3, Z26_ev hl (inW_of h1 h2 hw), Ev.s1 R, noneSame_any, h3, Bool.true_and]
 ·rw [if_neg h3, show wordsGo w ws 0 = false from by simpa using h3, Bool.false_and]
end Go.Vsi
end

section
set_option linter.unusedVariables false
set_option linter.unusedSimpArgs false
set_option synthInstance.maxSize 4096
namespace Go.Vsi
theorem bitsOk_Ok {w : Int} {ws : List Nat} (hw : Below 18446744073709551616 ws) : bitsOk w (W ws) = true ↔ Ok w ws := by
 rw [bitsOk_W hw]
 exact ⟨fun ⟨a, b, c, d⟩ => ⟨a, b, c, hw, d⟩, fun h => ⟨h.lo, h.hi, h.len, h.top⟩⟩
theorem Ok.bits {w : Int} {ws : List Nat} (h : Ok w ws) : bitsOk w (W ws) = true := (bitsOk_Ok h.words).2 h
theorem zero_ev {w : Int} (h0 : 0 <= w) (h1 : w <= 1000000) (R : Nat -> Int -> List Int -> Prop) : Ev (fun n => Z22.c n w (R n)) ↔ Ev (fun n => R n w (W (List.replicate ((w + 63) / 64).toNat 0))) := by
 refine Ev.suc.trans ?_
 simp (disch := omega) only [Z22.c, Z22.w, wordsFor_ev, grd_dec2, decide_true, Bool.and_true, W_rep, Ev.s2 R]
theorem or_lt {a b : Nat} (ha : a < 18446744073709551616) (hb : b < 18446744073709551616) : a ||| b < 18446744073709551616 :=
 Nat.or_lt_two_pow (n := 64) ha hb
end Go.Vsi
end

section
set_option linter.unusedVariables false
set_option linter.unusedSimpArgs false
set_option synthInstance.maxSize 4096
namespace Go.Vsi
end Go.Vsi
end

section
set_option linter.unusedVariables false
set_option linter.unusedSimpArgs false
set_option synthInstance.maxSize 4096
namespace Go.Vsi
theorem list_lp {w : Nat} {ws : List Nat} (hw : Below 18446744073709551616 ws) (hl : ws.length <= 4096) (hwl : w <= 64 * ws.length) : ∀ (m k : Nat), k + m = w -> ∀ R : Nat -> List Int -> Prop,
  (Ev (fun n => Z50.l3 n w (W ws) k (bl k (bit ws)) (R n)) ↔ Ev (fun n => R n (bl w (bit ws))))
 | 0, k, h, R => by
  obtain rfl : k = w := by omega
  refine Ev.suc.trans ?_
  simp (disch := omega) only [Z50.l3, Z50.l3.b, if_neg, decide_eq_true_eq, Ev.s1 R]
 | m + 1, k, h, R => by
  have ek : IntKind.wrap .i64 ((k : Int) + 1) = ((k + 1 : Nat) : Int) := wrap64 (by omega) (by omega)
  have e : bl k (bit ws) ++ [(((bit ws k).toNat : Nat) : Int)] = bl (k + 1) (bit ws) := by
   rw [bl_one, bl_app]
   refine bl_ext fun i hi => ?_
   split
   ·rfl
   ·congr 1; omega
  refine Ev.suc.trans ?_
  simp (disch := first | omega | (simp only [bl_len, List.length_cons, List.length_nil]; omega)) only [Z50.l3, Z50.l3.b, if_pos, decide_eq_true_eq, l1Bit_ev hw _ hl, grd_dec, ek, e]
  rw [list_lp hw hl hwl m (k + 1) (by omega), Ev.s1 R]
theorem list_ev {w : Nat} {ws : List Nat} (h : Ok w ws) (R : Nat -> List Int -> Prop) :
  Ev (fun n => Z50.c n w (W ws) (R n)) ↔ Ev (fun n => R n (bl w (bit ws))) := by
 have hlen := h.len
 have hhi := h.hi
 have k := list_lp (w := w) h.words (by omega) (by omega) w 0 (by omega) (fun n => R (n + 1))
 simp only [Int.natCast_zero, bl_zero] at k
 refine Ev.suc.trans ?_
 simp only [Z50.c, Z50.w]
 rw [k, Ev.s1 R]
theorem from_lp {w : Nat} {f : Nat -> Bool} (hw : w <= 4096) {x7 : List Int} {x8 x9 : Int} : ∀ (m k : Nat), k + m = w -> ∀ o : List Nat, o.length = (w + 63) / 64 -> Below 18446744073709551616 o -> (∀ i, bit o i = (decide (i < k) && f i)) ->
  ∃ o' : List Nat, o'.length = (w + 63) / 64 /\ Below 18446744073709551616 o' /\ (∀ i, bit o' i = (decide (i < w) && f i)) /\
   ∀ R : Nat -> List Int -> List Int -> Int -> Int -> Prop, (Ev (fun n => Z47.l5 n (bl w f) x7 x8 x9 k (W o) (R n)) ↔ Ev (fun n => R n (W o') x7 x8 x9))
 | 0, k, h, o, ho, hB, hb => by
  obtain rfl : k = w := by omega
  refine ⟨o, ho, hB, hb, fun R => ?_⟩
  refine Ev.suc.trans ?_
  simp (disch := omega) only [Z47.l5, Z47.l5.b, bl_len, if_neg, decide_eq_true_eq, Ev.s4 R]
 | m + 1, k, h, o, ho, hB, hb => by
  have bo : o.getD (k / 64) 0 < 18446744073709551616 := hB.getD (by decide) _
  have hx : (f k).toNat <<< (k % 64) < 18446744073709551616 := by
   have h1 : 1 <<< (k % 64) < 18446744073709551616 := by
    rw [Nat.shiftLeft_eq, Nat.one_mul]; exact Nat.pow_lt_pow_right (a := 2) (by decide) (by omega : k % 64 < 64)
   cases f k
   ·simp
   ·exact h1
  have hb1 : ∀ i, bit (o.set (k / 64) (o.getD (k / 64) 0 ||| ((f k).toNat <<< (k % 64)))) i = (decide (i < k + 1) && f i) := fun i => by
   rw [bit_set (by omega)]
   split
   ·rename_i hi
    rw [Nat.testBit_or, Nat.testBit_shiftLeft, toNat_testBit, show (o.getD (k / 64) 0).testBit (i % 64) = bit o i from by rw [bit, hi], hb]
    rcases Nat.lt_trichotomy i k with hik | rfl | hik
    ·have n1 : i < k + 1 := by omega
     have n2 : ¬ k % 64 <= i % 64 := by omega
     simp [hik, n1, n2]
    ·simp
    ·have n1 : ¬ i < k := by omega
     have n2 : ¬ i < k + 1 := by omega
     have n3 : ¬ i % 64 - k % 64 = 0 := by omega
     simp [n1, n2, n3]
   ·rename_i hi
    rw [hb]
    by_cases hik : i < k
    ·have n1 : i < k + 1 := by omega
     simp [hik, n1]
    ·have n1 : ¬ i < k + 1 := by
      intro h'; have : i = k := by omega
      exact hi (by rw [this])
     simp [hik, n1]
  obtain ⟨o', b1, b2, b3, kk⟩ := from_lp hw (x7 := x7) (x8 := x8) (x9 := x9) m (k + 1) (by omega) _ (by rw [List.length_set]; exact ho) (hB.set (or_lt bo hx)) hb1
  refine ⟨o', b1, b2, b3, fun R => ?_⟩
  have e1 : Int.toNat ((k : Int) / 64) = k / 64 := by omega
  have e2 : Int.toNat ((k : Int) % 64) = k % 64 := by omega
  have ek : IntKind.wrap .i64 ((k : Int) + 1) = ((k + 1 : Nat) : Int) := wrap64 (by omega) (by omega)
  have er : rd (bl w f) k = (((f k).toNat : Nat) : Int) := bl_rd (by omega)
  have et : IntKind.wrap .u64 (((f k).toNat : Nat) : Int) = (((f k).toNat : Nat) : Int) := by cases f k <;> rfl
  have es := shl_W (f k).toNat (k % 64) (by omega)
  rw [Nat.mod_eq_of_lt hx] at es
  refine Ev.suc.trans ?_
  simp (disch := omega) only [Z47.l5, Z47.l5.b, bl_len, if_pos, decide_eq_true_eq, tdivP, tmodP, wrap64, wrapU, grd_dec2, grd_dec, e1, e2, ek, W_len, W_rd, Int.toNat_natCast, er, et, es]
  rw [or_W bo hx, W_set]
  rw [kk, Ev.s4 R]
theorem from_ev {w : Nat} {f : Nat -> Bool} (h1 : 1 <= w) (h2 : w <= 4096) (R : Nat -> Int -> List Int -> Bool -> Prop) :
  Ev (fun n => Z47.c n (bl w f) (R n)) ↔ Ev (fun n => R n w (W (pk w f)) true) := by
 obtain ⟨o, a1, a2, a3, k⟩ := from_lp h2 (f := f) (x7 := []) (x8 := 0) (x9 := (w : Int)) w 0 (by omega) (List.replicate ((w + 63) / 64) 0) (by simp) (Below.rep (by decide)) (fun i => by rw [bit_rep]; simp)
 have ho : o = pk w f := by
  refine pk_of ⟨by omega, by omega, by omega, a2, fun i hi => ?_⟩ fun i hi => ?_
  ·rw [a3, decide_eq_false (show ¬ i < w by omega)]; rfl
  ·rw [a3, decide_eq_true hi]; rfl
 simp only [Int.natCast_zero] at k
 have e : IntKind.wrap .i64 (Int.tdiv (IntKind.wrap .i64 ((w : Int) + 63)) 64) = (((w + 63) / 64 : Nat) : Int) := by
  rw [wrap64 (x := (w : Int) + 63) (by omega) (by omega), tdivP (by omega), wrap64 (by omega) (by omega)]; omega
 refine Ev.suc.trans ?_
 simp only [Z47.c, Z47.w, Z47.j0, Ev.iteI, decide_eq_true_eq, decide_eq_false_iff_not, bl_len]
 rw [if_pos (by omega), if_neg (by omega)]
 simp (disch := omega) only [e, decide_true, Bool.and_true, grd_dec2, Int.toNat_natCast, W_rep]
 rw [k, ho, Ev.s3 R]
theorem wd_W {ws : List Nat} (h : Below 18446744073709551616 ws) : Wd (W ws) := fun x hx => by
 obtain ⟨y, hy, rfl⟩ := List.mem_map.1 hx
 have := h y hy
 constructor
 ·exact Int.natCast_nonneg _
 ·show ((y : Nat) : Int) <= _
  omega
end Go.Vsi
end

section
set_option linter.unusedVariables false
set_option linter.unusedSimpArgs false
set_option synthInstance.maxSize 4096
namespace Go.Vsi
theorem has_lp {l : List Int} {a : Int} (hl : l.length <= 1099511627776) : ∀ (ys : List Int) (x : Int), l.drop x.toNat = ys -> 0 <= x -> ∀ (Kx : Nat -> Prop) (Kr : Nat -> Bool -> Prop),
  (Ev (fun n => Z48.l2 n l a x (Kx n) (Kr n)) ↔ if a ∈ ys then Ev (fun n => Kr n true) else Ev Kx)
 | [], x, h, h0, Kx, Kr => by
  have := drop_nil h h0
  refine Ev.suc.trans ?_
  simp (disch := omega) only [Z48.l2, Z48.l2.b, if_neg, decide_eq_true_eq, Ev.s0 Kx, List.not_mem_nil, if_false]
 | y :: ys, x, h, h0, Kx, Kr => by
  obtain ⟨e1, e2, e3⟩ := drop_cons h h0
  refine Ev.suc.trans ?_
  simp (disch := omega) only [Z48.l2, Z48.l2.b, if_pos, decide_eq_true_eq, grd_dec2, e2, wrap64, Ev.iteI, Ev.s1 Kr]
  rw [has_lp hl ys (x + 1) e3 (by omega), Ev.s0 Kx, Ev.s1 Kr]
  by_cases hy : y = a
  ·subst hy; simp
  ·rw [if_neg hy]
   have : a ∈ y :: ys ↔ a ∈ ys := by simp [Ne.symm hy]
   simp only [this]
theorem has_ev {l : List Int} {a : Int} (hl : l.length <= 1099511627776) (R : Nat -> Bool -> Prop) :
  Ev (fun n => Z48.c n l a (R n)) ↔ Ev (fun n => R n (decide (a ∈ l))) := by
 refine Ev.suc.trans ?_
 simp only [Z48.c, Z48.w]
 rw [has_lp hl l 0 rfl (by omega) (fun n => R (n + 1) false) (fun n => R (n + 1)), Ev.s1 R, Ev.s1 R]
 by_cases h : a ∈ l
 ·rw [if_pos h, decide_eq_true h]
 ·rw [if_neg h, decide_eq_false h]
def ins (x : Int) (out : List Int) : List Int := out.filter (fun y => decide (y <= x)) ++ x :: out.filter (fun y => decide (x < y))
def risingGo : List Int -> List Int -> List Int
 | [], out => out
 | x :: r, out => risingGo r (if x ∈ out then out else ins x out)
def rising (l : List Int) : List Int := risingGo l []
def Rises (l : List Int) : Prop := l.Pairwise (· < ·)
theorem ins_rises {x : Int} {l : List Int} (h : Rises l) (hx : x ∉ l) : Rises (ins x l) := by
 unfold Rises ins
 rw [List.pairwise_append]
 refine ⟨h.filter _, ?_, ?_⟩
 ·rw [List.pairwise_cons]
  refine ⟨fun y hy => ?_, h.filter _⟩
  simpa using (List.mem_filter.1 hy).2
 ·intro a ha b hb
  have h1 := List.mem_filter.1 ha
  have h2 := h1.2
  rw [decide_eq_true_eq] at h2
  have hne : a ≠ x := by rintro rfl; exact hx h1.1
  rcases List.mem_cons.1 hb with rfl | hb
  ·omega
  ·have h3 := (List.mem_filter.1 hb).2
   rw [decide_eq_true_eq] at h3
   omega
theorem mem_ins {x y : Int} {l : List Int} : y ∈ ins x l ↔ y = x \/ y ∈ l := by
 unfold ins
 simp only [List.mem_append, List.mem_cons, List.mem_filter, decide_eq_true_eq]
 constructor
 ·rintro (⟨h, _⟩ | h | ⟨h, _⟩)
  ·exact .inr h
  ·exact .inl h
  ·exact .inr h
 ·rintro (h | h)
  ·exact .inr (.inl h)
  ·by_cases hy : y <= x
   ·exact .inl ⟨h, hy⟩
   ·exact .inr (.inr ⟨h, by omega⟩)
theorem filter_two (x : Int) : ∀ l : List Int, (l.filter fun y => decide (y <= x)).length + (l.filter fun y => decide (x < y)).length = l.length
 | [] => rfl
 | y :: l => by
  have := filter_two x l
  by_cases h : y <= x
  ·have h' : ¬ x < y := by omega
   simp [h, h']; omega
  ·have h' : x < y := by omega
   simp [h, h']; omega
theorem ins_len {x : Int} {l : List Int} : (ins x l).length = l.length + 1 := by
 have := filter_two x l
 unfold ins
 rw [List.length_append, List.length_cons]; omega
theorem risingGo_rises : ∀ {l out : List Int}, Rises out -> Rises (risingGo l out)
 | [], out, h => h
 | x :: l, out, h => by
  rw [risingGo]
  split
  ·exact risingGo_rises h
  ·rename_i hx; exact risingGo_rises (ins_rises h hx)
theorem mem_risingGo {y : Int} : ∀ {l out : List Int}, y ∈ risingGo l out ↔ y ∈ out \/ y ∈ l
 | [], out => by simp [risingGo]
 | x :: l, out => by
  rw [risingGo, mem_risingGo, List.mem_cons]
  split
  ·rename_i hx
   constructor
   ·rintro (h | h); exact .inl h; exact .inr (.inr h)
   ·rintro (h | rfl | h)
    ·exact .inl h
    ·exact .inl hx
    ·exact .inr h
  ·rw [mem_ins]
   constructor
   ·rintro ((h | h) | h)
    ·exact .inr (.inl h)
    ·exact .inl h
    ·exact .inr (.inr h)
   ·rintro (h | h | h)
    ·exact .inl (.inr h)
    ·exact .inl (.inl h)
    ·exact .inr h
theorem risingGo_le : ∀ {l out : List Int}, (risingGo l out).length <= out.length + l.length
 | [], out => by simp [risingGo]
 | x :: l, out => by
  rw [risingGo]
  have := risingGo_le (l := l) (out := if x ∈ out then out else ins x out)
  split at this
  ·rename_i hx; rw [if_pos hx]; simp only [List.length_cons]; omega
  ·rename_i hx; rw [if_neg hx]; rw [ins_len] at this; simp only [List.length_cons]; omega
theorem rising_rises (l : List Int) : Rises (rising l) := risingGo_rises (List.Pairwise.nil)
theorem mem_rising {y : Int} {l : List Int} : y ∈ rising l ↔ y ∈ l := by rw [rising, mem_risingGo]; simp
theorem rising_le (l : List Int) : (rising l).length <= l.length := by have := risingGo_le (l := l) (out := []); simpa [rising] using this
theorem Rises.ext : ∀ {a b : List Int}, Rises a -> Rises b -> (∀ y, y ∈ a ↔ y ∈ b) -> a = b
 | [], [], _, _, _ => rfl
 | [], y :: b, _, _, h => by have := (h y).2 List.mem_cons_self; cases this
 | x :: a, [], _, _, h => by have := (h x).1 List.mem_cons_self; cases this
 | x :: a, y :: b, ha, hb, h => by
  rw [Rises, List.pairwise_cons] at ha hb
  have hxy : x = y := by
   have h1 := (h x).1 List.mem_cons_self
   have h2 := (h y).2 List.mem_cons_self
   rcases List.mem_cons.1 h1 with h1 | h1
   ·exact h1
   ·rcases List.mem_cons.1 h2 with h2 | h2
    ·exact h2.symm
    ·have := ha.1 _ h2; have := hb.1 _ h1; omega
  subst hxy
  congr 1
  refine Rises.ext ha.2 hb.2 fun z => ?_
  have hz := h z
  simp only [List.mem_cons] at hz
  constructor
  ·intro hm
   rcases hz.1 (.inr hm) with rfl | h'
   ·have := ha.1 _ hm; omega
   ·exact h'
  ·intro hm
   rcases hz.2 (.inr hm) with rfl | h'
   ·have := hb.1 _ hm; omega
   ·exact h'
theorem rd_at {α : Type} [Inhabited α] {a z : List α} {v : α} {k : Int} (hk : k = (a.length : Int)) : rd (a ++ v :: z) k.toNat = v := by
 subst hk
 rw [Int.toNat_natCast, rd, List.getD_eq_getElem?_getD, List.getElem?_append_right (Nat.le_refl _), Nat.sub_self]; rfl
theorem rise_lp {l : List Int} {i x : Int} (hi0 : 0 <= i) (hi : i < (l.length : Int)) (hx : rd l i.toNat = x) : ∀ (m : Nat) (pre : List Int), pre.length = m -> m <= 1099511627776 -> Rises pre -> ∀ (z : Int) (suf : List Int), ∃ z' : Int,
  ∀ (Kx : Nat -> List Int -> Int -> Int -> List Int -> Prop), (Ev (fun n => Z63.l8 n l i (pre.length : Int) (pre ++ z :: suf) (Kx n)) ↔
   Ev (fun n => Kx n l i ((pre.filter (fun y => decide (y <= x))).length : Int) (pre.filter (fun y => decide (y <= x)) ++ z' :: (pre.filter (fun y => decide (x < y)) ++ suf))))
 | 0, pre, hm, _, hp, z, suf => by
  have : pre = [] := List.eq_nil_of_length_eq_zero hm
  subst this
  refine ⟨z, fun Kx => ?_⟩
  refine Ev.suc.trans ?_
  simp (disch := (simp only [List.length_nil]; omega)) only [Z63.l8, Z63.l8.b, if_neg, decide_eq_true_eq, Ev.s4 Kx]
  simp
 | m + 1, pre, hm, hb, hp, z, suf => by
  obtain ⟨p, y, rfl⟩ : ∃ p y, pre = p ++ [y] := ⟨pre.dropLast, pre.getLast (by rintro rfl; simp at hm), (List.dropLast_concat_getLast _).symm⟩
  have hpl : p.length = m := by simpa using hm
  have hpp : Rises p := (List.pairwise_append.1 hp).1
  have hall : ∀ a ∈ p, a < y := fun a ha => (List.pairwise_append.1 hp).2.2 a ha y (by simp)
  have e1 : IntKind.wrap .i64 (((p ++ [y]).length : Int) - 1) = (p.length : Int) := by simp only [List.length_append, List.length_cons, List.length_nil]; rw [wrap64 (by omega) (by omega)]; omega
  have e2 : (p ++ [y]) ++ z :: suf = p ++ y :: (z :: suf) := by simp
  have e3 : rd ((p ++ [y]) ++ z :: suf) (p.length : Int).toNat = y := by rw [e2]; exact rd_at rfl
  have e4 : (((p ++ [y]) ++ z :: suf).length : Int) = (p.length : Int) + 1 + 1 + (suf.length : Int) := by simp; omega
  have hpos : ((p ++ [y]).length : Int) > 0 := by simp only [List.length_append, List.length_cons, List.length_nil]; omega
  by_cases h : y > x
  ·obtain ⟨z', k⟩ := rise_lp hi0 hi hx m p hpl (by omega) hpp y (y :: suf)
   refine ⟨z', fun Kx => ?_⟩
   have f1 : (p ++ [y]).filter (fun y => decide (y <= x)) = p.filter (fun y => decide (y <= x)) := by
    have : ¬ y <= x := by omega
    simp [List.filter_append, this]
   have f2 : (p ++ [y]).filter (fun y => decide (x < y)) = p.filter (fun y => decide (x < y)) ++ [y] := by
    have : x < y := by omega
    simp [List.filter_append, this]
   have es : List.set ((p ++ [y]) ++ z :: suf) ((p ++ [y]).length : Int).toNat y = p ++ y :: (y :: suf) := by
    rw [Int.toNat_natCast, List.set_append_right _ _ (Nat.le_refl _), Nat.sub_self, List.set_cons_zero]; simp
   rw [f1, f2]
   refine Ev.suc.trans ?_
   simp (disch := (simp only [List.length_append, List.length_cons, List.length_nil] at *; omega)) only [Z63.l8, Z63.l8.b, Z63.j1, if_pos, decide_eq_true_eq, Ev.iteI, e1, e3, e4, hx, grd_dec2, es]
   rw [k, Ev.s4 Kx]
   simp
  ·have f1 : (p ++ [y]).filter (fun y => decide (y <= x)) = p ++ [y] := by
    rw [List.filter_eq_self]
    intro a ha
    rcases List.mem_append.1 ha with ha | ha
    ·have := hall a ha; rw [decide_eq_true_eq]; omega
    ·rw [List.mem_singleton] at ha; subst ha; rw [decide_eq_true_eq]; omega
   have f2 : (p ++ [y]).filter (fun y => decide (x < y)) = [] := by
    rw [List.filter_eq_nil_iff]
    intro a ha
    rcases List.mem_append.1 ha with ha | ha
    ·have := hall a ha; rw [decide_eq_true_eq]; omega
    ·rw [List.mem_singleton] at ha; subst ha; rw [decide_eq_true_eq]; omega
   refine ⟨z, fun Kx => ?_⟩
   rw [f1, f2, List.nil_append]
   refine Ev.suc.trans ?_
   simp (disch := (simp only [List.length_append, List.length_cons, List.length_nil] at *; omega)) only [Z63.l8, Z63.l8.b, if_pos, if_neg, decide_eq_true_eq, Ev.iteI, e1, e3, e4, hx, grd_dec2, Ev.s4 Kx]
theorem rising_lp {l : List Int} (hl : l.length <= 1048576) : ∀ (ys : List Int) (x : Int) (out : List Int), l.drop x.toNat = ys -> 0 <= x -> Rises out -> out.length + ys.length <= 1048576 -> ∀ (Kx : Nat -> List Int -> Prop),
  (Ev (fun n => Z63.l3 n l x out (Kx n)) ↔ Ev (fun n => Kx n (risingGo ys out)))
 | [], x, out, h, h0, ho, hb, Kx => by
  have := drop_nil h h0
  refine Ev.suc.trans ?_
  simp (disch := omega) only [Z63.l3, Z63.l3.b, if_neg, decide_eq_true_eq, Ev.s1 Kx, risingGo]
 | y :: ys, x, out, h, h0, ho, hb, Kx => by
  obtain ⟨e1, e2, e3⟩ := drop_cons h h0
  rw [List.length_cons] at hb
  rw [risingGo]
  refine Ev.suc.trans ?_
  simp (disch := omega) only [Z63.l3, Z63.l3.b, if_pos, decide_eq_true_eq, grd_dec2, e2, wrap64, has_ev, Ev.iteI]
  by_cases hy : y ∈ out
  ·rw [if_pos hy, if_pos hy, rising_lp hl ys (x + 1) out e3 (by omega) ho (by omega), Ev.s1 Kx]
  ·rw [if_neg hy, if_neg hy]
   obtain ⟨z', k⟩ := rise_lp h0 e1 e2 out.length out rfl (by omega) ho y []
   have hf := filter_two y out
   have hins : List.set (out.filter (fun w => decide (w <= y)) ++ z' :: (out.filter (fun w => decide (y < w)) ++ [])) ((out.filter (fun w => decide (w <= y))).length : Int).toNat y = ins y out := by
    rw [Int.toNat_natCast, List.set_append_right _ _ (Nat.le_refl _), Nat.sub_self, List.set_cons_zero, List.append_nil]; rfl
   simp (disch := first | omega | (simp only [List.length_append, List.length_cons, List.length_nil]; omega)) only [grd_dec, k, grd_dec2, e2, hins, wrap64]
   rw [rising_lp hl ys (x + 1) _ e3 (by omega) (ins_rises ho hy) (by rw [ins_len]; omega), Ev.s1 Kx]
theorem rising_ev {l : List Int} (hl : l.length <= 1048576) (R : Nat -> List Int -> Prop) :
  Ev (fun n => Z63.c n l (R n)) ↔ Ev (fun n => R n (rising l)) := by
 refine Ev.suc.trans ?_
 simp only [Z63.c, Z63.w]
 rw [rising_lp hl l 0 [] rfl (by omega) List.Pairwise.nil (by simpa using hl), Ev.s1 R]; rfl
end Go.Vsi
end

section
set_option linter.unusedVariables false
set_option linter.unusedSimpArgs false
set_option synthInstance.maxSize 4096
namespace Go.Vsi
theorem Z36_lp {l : List Int} {v : Int} (hl : l.length <= 1099511627776) : ∀ (ys : List Int) (x : Int), l.drop x.toNat = ys -> 0 <= x ->
  ∀ (Kx : Nat -> Prop) (Kr : Nat -> Int -> Prop),
  (Ev (fun n => Z36.l2 n l v l.length x (Kx n) (Kr n)) ↔ if firstIx (fun y => decide (v = y)) ys x < 0 then Ev Kx else Ev (fun n => Kr n (firstIx (fun y => decide (v = y)) ys x)))
 | [], x, h, h0, Kx, Kr => by
  have := drop_nil h h0
  rw [firstIx, if_pos (by decide)]
  refine Ev.suc.trans ?_
  simp (disch := omega) only [Z36.l2, Z36.l2.b, if_neg, decide_eq_true_eq, Ev.s0 Kx]
 | y :: ys, x, h, h0, Kx, Kr => by
  obtain ⟨e1, e2, e3⟩ := drop_cons h h0
  refine Ev.suc.trans ?_
  simp (disch := first | omega | omega) only [Z36.l2, Z36.l2.b, if_pos, decide_eq_true_eq, grd_dec2, e2, wrap64, Ev.s1 Kr, Ev.s0 Kx, Ev.iteI]
  rw [Z36_lp hl ys (x + 1) e3 (by omega), Ev.s0 Kx, Ev.s1 Kr]
  simp only [firstIx, decide_eq_true_eq]
  split
  ·rw [if_neg (by omega)]
  ·rfl
theorem Z36_ev {l : List Int} {v : Int} (hl : l.length <= 1099511627776) (R : Nat -> Int -> Prop) :
  Ev (fun n => Z36.c n l v (R n)) ↔ Ev (fun n => R n (firstIx (fun y => decide (v = y)) l 0)) := by
 refine Ev.suc.trans ?_
 simp only [Z36.c, Z36.w]
 rw [Z36_lp hl l 0 rfl (by omega), Ev.s1 R, Ev.s1 R]
 split
 ·rw [firstIx_neg (by omega) ‹_›]
 ·rfl
theorem Z30_ev {l : List Int} {v : Int} (hl : l.length <= 1099511627776) (R : Nat -> Bool -> Prop) :
  Ev (fun n => Z30.c n l v (R n)) ↔ Ev (fun n => R n (l.any fun y => decide (v = y))) := by
 refine Ev.suc.trans ?_
 simp only [Z30.c, Z30.w]
 rw [Z36_ev hl, Ev.s1 R, firstIx_any (by omega)]
theorem any_mem {v : Int} {l : List Int} : (l.any fun y => decide (v = y)) = decide (v ∈ l) := by
 rw [Bool.eq_iff_iff, List.any_eq_true, decide_eq_true_eq]
 constructor
 ·rintro ⟨y, hy, e⟩; rw [decide_eq_true_eq] at e; rw [e]; exact hy
 ·exact fun h => ⟨v, h, by simp⟩
theorem rd_set_if {α : Type} [Inhabited α] {l : List α} {i j : Nat} {v : α} (h : i < l.length) : rd (l.set i v) j = if j = i then v else rd l j := by
 simp only [rd, List.getD_eq_getElem?_getD, List.getElem?_set]
 by_cases hj : j = i
 ·subst hj; simp [h]
 ·rw [if_neg (fun e => hj e.symm), if_neg hj]
def addN {α : Type} [DecidableEq α] (x : α) (l : List α) : List α := if x ∈ l then l else l ++ [x]
theorem mem_addN {α : Type} [DecidableEq α] {x y : α} {l : List α} : y ∈ addN x l ↔ y = x \/ y ∈ l := by
 unfold addN
 split
 ·rename_i h
  constructor
  ·exact .inr
  ·rintro (rfl | h'); exact h; exact h'
 ·rw [List.mem_append, List.mem_singleton, or_comm]
theorem addN_nodup {α : Type} [DecidableEq α] {x : α} {l : List α} (h : l.Nodup) : (addN x l).Nodup := by
 unfold addN
 split
 ·exact h
 ·rename_i hx
  rw [List.nodup_append]
  refine ⟨h, by simp, fun a ha b hb => ?_⟩
  rw [List.mem_singleton] at hb
  rintro rfl; exact hx (hb ▸ ha)
theorem addN_len {α : Type} [DecidableEq α] {x : α} {l : List α} : (addN x l).length <= l.length + 1 := by
 unfold addN; split <;> simp
def InG (n : Nat) (b : tBar) : Prop := 0 <= b.1 /\ b.1 < n /\ -1 <= b.2.1 /\ b.2.1 < n /\ b.1 ≠ b.2.1 /\ b.2.2.2.length <= 1099511627776
def meet (out : List trivals) (a b : Int) : List trivals := out.set a.toNat (addN b (rd out a.toNat).1, (rd out a.toNat).2)
def rivStep (out : List trivals) (b : tBar) : List trivals :=
 if b.2.1 >= 0 then meet (meet out b.1 b.2.1) b.2.1 b.1 else out.set b.1.toNat ((rd out b.1.toNat).1, addN b.2.2 (rd out b.1.toNat).2)
def rivGo : List tBar -> List trivals -> List trivals
 | [], out => out
 | b :: r, out => rivGo r (rivStep out b)
theorem set_self {α : Type} [Inhabited α] {l : List α} {i : Nat} (h : i < l.length) : l.set i (rd l i) = l := by
 apply List.ext_getElem (by simp)
 intro j h1 h2
 rw [List.getElem_set]
 split
 ·rename_i e; subst e; simp [rd, List.getD_eq_getElem?_getD, h]
 ·rfl
def RivB (out : List trivals) (k : Nat) : Prop := ∀ i, (rd out i).1.length <= k /\ (rd out i).2.length <= k
theorem meet_len {out : List trivals} {a b : Int} : (meet out a b).length = out.length := by simp [meet]
theorem rivStep_len {out : List trivals} {b : tBar} : (rivStep out b).length = out.length := by unfold rivStep; split <;> simp [meet]
theorem meet_rd {out : List trivals} {a b : Int} {i : Nat} (h0 : 0 <= a) (h : a < (out.length : Int)) : rd (meet out a b) i = if i = a.toNat then (addN b (rd out a.toNat).1, (rd out a.toNat).2) else rd out i :=
 rd_set_if (by omega)
theorem meet_B {out : List trivals} {a b : Int} {k : Nat} (h0 : 0 <= a) (h : a < (out.length : Int)) (hB : RivB out k) : RivB (meet out a b) (k + 1) := fun i => by
 rw [meet_rd h0 h]
 split
 ·have := hB a.toNat; have := addN_len (x := b) (l := (rd out a.toNat).1); exact ⟨by simp only []; omega, by simp only []; omega⟩
 ·have := hB i; omega
theorem rivStep_B {out : List trivals} {b : tBar} {k : Nat} (h : InG out.length b) (hB : RivB out k) : RivB (rivStep out b) (k + 2) := by
 obtain ⟨h1, h2, h3, h4, h5, h6⟩ := h
 unfold rivStep
 split
 ·rename_i hb
  exact meet_B (by omega) (by rw [meet_len]; omega) (meet_B h1 h2 hB)
 ·intro i
  rw [rd_set_if (by omega)]
  split
  ·have := hB b.1.toNat; have := addN_len (x := b.2.2) (l := (rd out b.1.toNat).2); exact ⟨by simp only []; omega, by simp only []; omega⟩
  ·have := hB i; omega
theorem meet_ev {out : List trivals} {a b : Int} {k : Nat} (h0 : 0 <= a) (h : a < (out.length : Int)) (hB : RivB out k) (hk : k <= 1048576) (R : Nat -> List trivals -> Prop) :
  Ev (fun n => Z19.c n a b out (R n)) ↔ Ev (fun n => R n (meet out a b)) := by
 have hl := hB a.toNat
 refine Ev.suc.trans ?_
 simp (disch := first | omega | (simp only [List.length_cons, List.length_nil]; omega)) only [Z19.c, Z19.w, grd_dec2, grd_dec, decide_true, grd_true, Z30_ev, any_mem, Ev.iteI, Bool.not_eq_true', decide_eq_false_iff_not, and_self, Ev.andI, Ev.s1 R]
 by_cases hm : b ∈ (rd out a.toNat).1
 ·rw [if_neg (fun h => h hm), meet, addN, if_pos hm]
  rw [show ((rd out a.toNat).1, (rd out a.toNat).2) = rd out a.toNat from rfl, set_self (by omega)]
 ·rw [if_pos hm, meet, addN, if_neg hm]
theorem same1_ev {a : Int} {w : List Int} (hw : w.length <= 1099511627776) {y : tBits} (R : Nat -> Bool -> Prop) :
  Ev (fun n => Z2.c n a w y.1 y.2 (R n)) ↔ Ev (fun n => R n (decide (((a, w) : tBits) = y))) := by
 rw [same_ev hw]
 refine ev_arg ?_
 rw [decide_eq_decide]
 constructor
 ·rintro ⟨h1, h2⟩; exact Prod.ext h1 h2
 ·rintro rfl; exact ⟨rfl, rfl⟩
theorem Z34_lp {l : List tBits} {a : Int} {w : List Int} (hl : l.length <= 1099511627776) : ∀ (ys : List tBits) (x : Int), l.drop x.toNat = ys -> 0 <= x -> (∀ y : tBits, y ∈ ys -> w.length <= 1099511627776) ->
  ∀ (Kx : Nat -> Prop) (Kr : Nat -> Int -> Prop),
  (Ev (fun n => Z34.l2 n l a w l.length x (Kx n) (Kr n)) ↔ if firstIx (fun y => decide (((a, w) : tBits) = y)) ys x < 0 then Ev Kx else Ev (fun n => Kr n (firstIx (fun y => decide (((a, w) : tBits) = y)) ys x)))
 | [], x, h, h0, hy, Kx, Kr => by
  have := drop_nil h h0
  rw [firstIx, if_pos (by decide)]
  refine Ev.suc.trans ?_
  simp (disch := omega) only [Z34.l2, Z34.l2.b, if_neg, decide_eq_true_eq, Ev.s0 Kx]
 | y :: ys, x, h, h0, hy, Kx, Kr => by
  obtain ⟨e1, e2, e3⟩ := drop_cons h h0
  have hy0 := hy y List.mem_cons_self
  refine Ev.suc.trans ?_
  simp (disch := first | omega | assumption) only [Z34.l2, Z34.l2.b, if_pos, decide_eq_true_eq, grd_dec2, e2, wrap64, Ev.s1 Kr, same1_ev, Ev.iteI]
  rw [Z34_lp hl ys (x + 1) e3 (by omega) (fun y hy' => hy y (List.mem_cons_of_mem _ hy')), Ev.s0 Kx, Ev.s1 Kr]
  simp only [firstIx, decide_eq_true_eq]
  split
  ·rw [if_neg (by omega)]
  ·rfl
theorem Z34_ev {l : List tBits} {a : Int} {w : List Int} (hl : l.length <= 1099511627776) (hy : ∀ y : tBits, y ∈ l -> w.length <= 1099511627776) (R : Nat -> Int -> Prop) :
  Ev (fun n => Z34.c n l a w (R n)) ↔ Ev (fun n => R n (firstIx (fun y => decide (((a, w) : tBits) = y)) l 0)) := by
 refine Ev.suc.trans ?_
 simp only [Z34.c, Z34.w]
 rw [Z34_lp hl l 0 rfl (by omega) hy, Ev.s1 R, Ev.s1 R]
 split
 ·rw [firstIx_neg (by omega) ‹_›]
 ·rfl
theorem Z28_ev {l : List tBits} {a : Int} {w : List Int} (hl : l.length <= 1099511627776) (hy : ∀ y : tBits, y ∈ l -> w.length <= 1099511627776) (R : Nat -> Bool -> Prop) :
  Ev (fun n => Z28.c n l a w (R n)) ↔ Ev (fun n => R n (l.any fun y => decide (((a, w) : tBits) = y))) := by
 refine Ev.suc.trans ?_
 simp only [Z28.c, Z28.w]
 rw [Z34_ev hl hy, Ev.s1 R, firstIx_any (by omega)]
theorem any_memB {v : tBits} {l : List tBits} : (l.any fun y => decide (v = y)) = decide (v ∈ l) := by
 rw [Bool.eq_iff_iff, List.any_eq_true, decide_eq_true_eq]
 constructor
 ·rintro ⟨y, hy, e⟩; rw [decide_eq_true_eq] at e; rw [e]; exact hy
 ·exact fun h => ⟨v, h, by simp⟩
theorem riv_lp {l : List tBar} (hl : l.length <= 1000) : ∀ (ys : List tBar) (x : Int) (out : List trivals) (k : Nat), l.drop x.toNat = ys -> 0 <= x -> (∀ b ∈ ys, InG out.length b) -> RivB out k -> k + 2 * ys.length <= 1048576 ->
  ∀ (Kx : Nat -> List trivals -> Prop), (Ev (fun n => Z18.l4 n l l.length x out (Kx n)) ↔ Ev (fun n => Kx n (rivGo ys out)))
 | [], x, out, k, h, h0, hg, hB, hk, Kx => by
  have := drop_nil h h0
  refine Ev.suc.trans ?_
  simp (disch := omega) only [Z18.l4, Z18.l4.b, if_neg, decide_eq_true_eq, Ev.s1 Kx, rivGo]
 | b :: ys, x, out, k, h, h0, hg, hB, hk, Kx => by
  obtain ⟨e1, e2, e3⟩ := drop_cons h h0
  rw [List.length_cons] at hk
  have hb := hg b List.mem_cons_self
  obtain ⟨b1, b2, b3, b4, b5, b6⟩ := id hb
  have ih := riv_lp hl ys (x + 1) (rivStep out b) (k + 2) e3 (by omega) (fun c hc => by rw [rivStep_len]; exact hg c (List.mem_cons_of_mem _ hc)) (rivStep_B hb hB) (by omega) (fun n => Kx (n + 1))
  have hr := hB b.1.toNat
  refine Ev.suc.trans ?_
  simp (disch := omega) only [Z18.l4, Z18.l4.b, if_pos, decide_eq_true_eq, grd_dec2, e2, wrap64, Ev.iteI]
  rw [rivGo]
  by_cases hb0 : b.2.1 >= 0
  ·rw [if_pos hb0, meet_ev b1 b2 hB (by omega), meet_ev (by omega) (by rw [meet_len]; omega) (meet_B b1 b2 hB) (by omega)]
   rw [show meet (meet out b.1 b.2.1) b.2.1 b.1 = rivStep out b from by rw [rivStep, if_pos hb0], ih, Ev.s1 Kx]
  ·rw [if_neg hb0, Z28_ev (by omega) (fun _ _ => b6), any_memB]
   have hst : rivStep out b = out.set b.1.toNat ((rd out b.1.toNat).1, addN b.2.2 (rd out b.1.toNat).2) := by rw [rivStep, if_neg hb0]
   simp (disch := first | omega | (simp only [List.length_cons, List.length_nil]; omega)) only [grd_dec, grd_true, decide_true, and_self, Ev.andI, Ev.iteI, Bool.not_eq_true', decide_eq_false_iff_not]
   by_cases hm : b.2.2 ∈ (rd out b.1.toNat).2
   ·rw [if_neg (fun h => h hm)]
    have : out = rivStep out b := by
     rw [hst, addN, if_pos hm]
     exact (set_self (by omega)).symm
    rw [<- this] at ih ⊢
    rw [ih, Ev.s1 Kx]
   ·rw [if_pos hm]
    have : out.set b.1.toNat ((rd out b.1.toNat).1, (rd out b.1.toNat).2 ++ [b.2.2]) = rivStep out b := by
     rw [hst, addN, if_neg hm]
    rw [show (((b.2.2.1, b.2.2.2) : tBits)) = b.2.2 from rfl, this, ih, Ev.s1 Kx]
theorem rivals_ev {w : List Int} {l : List tBar} (hw : w.length <= 200) (hl : l.length <= 1000) (hg : ∀ b ∈ l, InG w.length b) (R : Nat -> List trivals -> Prop) :
  Ev (fun n => Z18.c n w l (R n)) ↔ Ev (fun n => R n (rivGo l (List.replicate w.length ([], [])))) := by
 refine Ev.suc.trans ?_
 simp (disch := omega) only [Z18.c, Z18.w, grd_dec2, decide_true, Bool.and_true, Int.toNat_natCast]
 rw [riv_lp hl l 0 _ 0 rfl (by omega) (fun b hb => by rw [List.length_replicate]; exact hg b hb) (fun i => by
  simp only [rd, List.getD_eq_getElem?_getD, List.getElem?_replicate]
  split <;> simp [default]) (by omega), Ev.s1 R]
def nodeStep (v : Int) (p : trivals) (b : tBar) : trivals :=
 if b.2.1 >= 0 then (if b.1 = v then (addN b.2.1 p.1, p.2) else if b.2.1 = v then (addN b.1 p.1, p.2) else p) else if b.1 = v then (p.1, addN b.2.2 p.2) else p
theorem rivStep_rd {out : List trivals} {b : tBar} {v : Int} (hb : InG out.length b) (h0 : 0 <= v) (hv : v < (out.length : Int)) : rd (rivStep out b) v.toNat = nodeStep v (rd out v.toNat) b := by
 obtain ⟨b1, b2, b3, b4, b5, b6⟩ := hb
 unfold rivStep nodeStep
 by_cases hb0 : b.2.1 >= 0
 ·rw [if_pos hb0, if_pos hb0, meet_rd hb0 (by rw [meet_len]; omega), meet_rd b1 b2, meet_rd b1 b2]
  by_cases h1 : b.1 = v
  ·subst h1
   rw [if_neg (by omega), if_pos rfl, if_pos rfl]
  ·rw [if_neg h1]
   by_cases h2 : b.2.1 = v
   ·subst h2
    rw [if_pos rfl, if_neg (by omega), if_pos rfl]
   ·rw [if_neg (by omega), if_neg (by omega), if_neg h2]
 ·rw [if_neg hb0, if_neg hb0, rd_set_if (by omega)]
  by_cases h1 : b.1 = v
  ·subst h1; rw [if_pos rfl, if_pos rfl]
  ·rw [if_neg (by omega), if_neg h1]
theorem rivGo_len : ∀ {l : List tBar} {out : List trivals}, (rivGo l out).length = out.length
 | [], _ => rfl
 | b :: l, out => by rw [rivGo, rivGo_len, rivStep_len]
theorem rivGo_rd {v : Int} (h0 : 0 <= v) : ∀ {l : List tBar} {out : List trivals}, (∀ b ∈ l, InG out.length b) -> v < (out.length : Int) -> rd (rivGo l out) v.toNat = l.foldl (nodeStep v) (rd out v.toNat)
 | [], out, _, _ => rfl
 | b :: l, out, h, hv => by
  rw [rivGo, rivGo_rd h0 (fun c hc => by rw [rivStep_len]; exact h c (List.mem_cons_of_mem _ hc)) (by rw [rivStep_len]; exact hv), List.foldl_cons, rivStep_rd (h b List.mem_cons_self) h0 hv]
def gather (v : Int) : List tBar -> List Int -> List tBar -> List Int × List tBar
 | [], o, p => (o, p)
 | b :: r, o, p => if b.1 = v /\ b.2.1 < 0 then gather v r o (putBar p b) else if b.1 = v then gather v r (o ++ [b.2.1]) p else if b.2.1 = v then gather v r (o ++ [b.1]) p else gather v r o p
theorem risingGo_new : ∀ {l out : List Int}, l.Nodup -> (∀ x ∈ l, x ∉ out) -> (risingGo l out).length = out.length + l.length
 | [], out, _, _ => by simp [risingGo]
 | x :: l, out, hn, h => by
  rw [List.nodup_cons] at hn
  rw [risingGo, if_neg (h x List.mem_cons_self), risingGo_new hn.2 (fun y hy hm => ?_), ins_len, List.length_cons]
  ·omega
  ·rcases mem_ins.1 hm with rfl | hm
   ·exact hn.1 hy
   ·exact h y (List.mem_cons_of_mem _ hy) hm
theorem rising_count {a b : List Int} (hn : a.Nodup) (h : ∀ y, y ∈ a ↔ y ∈ b) : (rising b).length = a.length := by
 have : rising b = rising a := Rises.ext (rising_rises b) (rising_rises a) fun y => by rw [mem_rising, mem_rising, h]
 rw [this, rising, risingGo_new hn (fun _ _ h => by cases h)]; simp
theorem gather_ok {v : Int} (hv : 0 <= v) : ∀ {l : List tBar} {o : List Int} {p : List tBar} {q : trivals}, (∀ b ∈ l, -1 <= b.2.1) -> q.1.Nodup -> (∀ y, y ∈ q.1 ↔ y ∈ o) -> p = q.2.map (fun z => (v, -1, z)) ->
  (rising (gather v l o p).1).length = (l.foldl (nodeStep v) q).1.length /\ (gather v l o p).2.length = (l.foldl (nodeStep v) q).2.length
 | [], o, p, q, _, hn, h, hp => ⟨rising_count hn h, by rw [gather, hp]; simp⟩
 | b :: l, o, p, q, hb, hn, h, hp => by
  have hb0 := hb b List.mem_cons_self
  have ht := fun c hc => hb c (List.mem_cons_of_mem _ hc)
  rw [List.foldl_cons, gather]
  have app : ∀ x : Int, ∀ y, y ∈ addN x q.1 ↔ y ∈ o ++ [x] := fun x y => by
   rw [mem_addN, List.mem_append, List.mem_singleton, h, or_comm]
  by_cases h1 : b.1 = v /\ b.2.1 < 0
  ·rw [if_pos h1]
   have e : nodeStep v q b = (q.1, addN b.2.2 q.2) := by rw [nodeStep, if_neg (by omega), if_pos h1.1]
   have eb : b = (v, -1, b.2.2) := by
    obtain ⟨x, y, z⟩ := b
    simp only at h1 hb0 ⊢
    rw [h1.1, show y = -1 from by omega]
   rw [e]
   refine gather_ok hv ht hn h ?_
   rw [hp, putBar, addN]
   have hm : b ∈ q.2.map (fun z => ((v, -1, z) : tBar)) ↔ b.2.2 ∈ q.2 := by
    rw [List.mem_map]
    constructor
    ·rintro ⟨z, hz, e⟩; rw [<- e]; exact hz
    ·intro hz; exact ⟨b.2.2, hz, eb.symm⟩
   by_cases hz : b.2.2 ∈ q.2
   ·rw [if_pos (hm.2 hz), if_pos hz]
   ·rw [if_neg (fun h => hz (hm.1 h)), if_neg hz, List.map_append, List.map_singleton, <- eb]
  ·rw [if_neg h1]
   by_cases h2 : b.1 = v
   ·rw [if_pos h2]
    have e : nodeStep v q b = (addN b.2.1 q.1, q.2) := by rw [nodeStep, if_pos (by omega), if_pos h2]
    rw [e]
    exact gather_ok hv ht (addN_nodup hn) (app _) hp
   ·rw [if_neg h2]
    by_cases h3 : b.2.1 = v
    ·rw [if_pos h3]
     have e : nodeStep v q b = (addN b.1 q.1, q.2) := by rw [nodeStep, if_pos (by omega), if_neg h2, if_pos h3]
     rw [e]
     exact gather_ok hv ht (addN_nodup hn) (app _) hp
    ·rw [if_neg h3]
     have e : nodeStep v q b = q := by
      rw [nodeStep, if_neg h2, if_neg h3, if_neg h2]
      split <;> rfl
     rw [e]
     exact gather_ok hv ht hn h hp
theorem gather_lp {v : Int} {w : List Int} {l : List tBar} (hl : l.length <= 1000) : ∀ (ys : List tBar) (x : Int) (o : List Int) (p : List tBar) (k : Nat), l.drop x.toNat = ys -> 0 <= x -> (∀ b ∈ ys, b.2.2.2.length <= 1099511627776) -> o.length <= k -> Bars p k -> k + ys.length <= 1048576 ->
  ∀ (Kx : Nat -> List Int -> List tBar -> Prop), (Ev (fun n => Z43.l4 n v w l x o p (Kx n)) ↔ Ev (fun n => Kx n (gather v ys o p).1 (gather v ys o p).2))
 | [], x, o, p, k, h, h0, hb, ho, hp, hk, Kx => by
  have := drop_nil h h0
  refine Ev.suc.trans ?_
  simp (disch := omega) only [Z43.l4, Z43.l4.b, if_neg, decide_eq_true_eq, Ev.s2 Kx, gather]
 | b :: ys, x, o, p, k, h, h0, hb, ho, hp, hk, Kx => by
  obtain ⟨e1, e2, e3⟩ := drop_cons h h0
  rw [List.length_cons] at hk
  have hb0 := hb b List.mem_cons_self
  have ht := fun c hc => hb c (List.mem_cons_of_mem _ hc)
  have ih := fun o p ho hp => gather_lp (v := v) (w := w) hl ys (x + 1) o p (k + 1) e3 (by omega) ht ho hp (by omega) (fun n => Kx (n + 1))
  have hpk : Bars p (k + 1) := ⟨by have := hp.1; omega, hp.2⟩
  have hp1 := hp.1
  have i1 := ih o (putBar p b) (by omega) (putBar_bars hp hb0)
  have i2 := ih (o ++ [b.2.1]) p (by simp; omega) hpk
  have i3 := ih (o ++ [b.1]) p (by simp; omega) hpk
  have i4 := ih o p (by omega) hpk
  refine Ev.suc.trans ?_
  simp (disch := first | omega | exact hp.2 | (simp only [List.length_cons, List.length_nil]; omega)) only [Z43.l4, Z43.l4.b, Z43.j3, if_pos, decide_eq_true_eq, grd_dec2, grd_dec, e2, wrap64, Ev.iteI, put_ev, Bool.false_eq_true, if_false]
  rw [gather]
  by_cases h1 : b.1 = v
  ·rw [if_pos h1]
   by_cases h2 : b.2.1 < 0
   ·rw [if_pos h2, if_pos ⟨h1, h2⟩, put_ev (by omega) hp.2 hb0]
    exact i1.trans (Ev.s2 Kx _ _)
   ·rw [if_neg h2, if_neg (fun h => h2 h.2), if_pos h1]
    exact i2.trans (Ev.s2 Kx _ _)
  ·rw [if_neg h1, if_neg (show ¬ (b.1 = v /\ b.2.1 < 0) from fun h => h1 h.1)]
   by_cases h3 : b.2.1 = v
   ·simp only [if_pos h3, if_neg h1]
    exact i3.trans (Ev.s2 Kx _ _)
   ·simp only [if_neg h3, if_neg h1]
    exact i4.trans (Ev.s2 Kx _ _)
theorem gather_le {v : Int} : ∀ {l : List tBar} {o : List Int} {p : List tBar}, (gather v l o p).1.length <= o.length + l.length /\ (gather v l o p).2.length <= p.length + l.length
 | [], o, p => by simp [gather]
 | b :: l, o, p => by
  rw [gather]
  have hp : (putBar p b).length <= p.length + 1 := by unfold putBar; split <;> simp
  split
  ·have := gather_le (v := v) (l := l) (o := o) (p := putBar p b); simp only [List.length_cons]; omega
  ·split
   ·have := gather_le (v := v) (l := l) (o := o ++ [b.2.1]) (p := p); simp only [List.length_append, List.length_cons, List.length_nil] at *; omega
   ·split
    ·have := gather_le (v := v) (l := l) (o := o ++ [b.1]) (p := p); simp only [List.length_append, List.length_cons, List.length_nil] at *; omega
    ·have := gather_le (v := v) (l := l) (o := o) (p := p); simp only [List.length_cons]; omega
def crowd (v : Int) (l : List tBar) : Int := (((l.foldl (nodeStep v) ([], [])).1.length + (l.foldl (nodeStep v) ([], [])).2.length : Nat) : Int)
theorem crowdS_ev {v : Int} {w : List Int} {l : List tBar} (hv : 0 <= v) (hl : l.length <= 1000) (hb : ∀ b ∈ l, b.2.2.2.length <= 1099511627776 /\ -1 <= b.2.1) (R : Nat -> Int -> Prop) :
  Ev (fun n => Z43.c n w l v (R n)) ↔ Ev (fun n => R n (crowd v l)) := by
 obtain ⟨g1, g2⟩ := gather_ok hv (l := l) (o := []) (p := []) (q := ([], [])) (fun b h => (hb b h).2) (by simp) (fun _ => Iff.rfl) rfl
 obtain ⟨f1, f2⟩ := gather_le (v := v) (l := l) (o := []) (p := [])
 simp only [List.length_nil, Nat.zero_add] at f1 f2
 refine Ev.suc.trans ?_
 simp only [Z43.c, Z43.w]
 rw [gather_lp hl l 0 [] [] 0 rfl (by omega) (fun b h => (hb b h).1) (by simp) ⟨by simp, fun _ h => by cases h⟩ (by omega), rising_ev (by omega)]
 have := rising_le (gather v l [] []).1
 simp (disch := omega) only [wrap64, Ev.s1 R]
 refine ev_arg ?_
 rw [crowd]; omega
theorem crowdI_ev {w : List Int} {l : List tBar} {v : Int} (hw : w.length <= 200) (hl : l.length <= 1000) (hg : ∀ b ∈ l, InG w.length b) (h0 : 0 <= v) (hv : v < (w.length : Int)) :
  rd (rivGo l (List.replicate w.length ([], []))) v.toNat = l.foldl (nodeStep v) ([], []) := by
 rw [rivGo_rd h0 (fun b hb => by rw [List.length_replicate]; exact hg b hb) (by simpa using hv)]
 congr 1
 simp only [rd, List.getD_eq_getElem?_getD, List.getElem?_replicate]
 rw [if_pos (by omega)]; rfl
theorem inG_of {w : List Int} {l : List tBar} (h : graphOk w l = true) (hy : ∀ b ∈ l, b.2.2.2.length <= 1099511627776) : ∀ b ∈ l, InG w.length b := fun b hb => by
 rw [graphOk, Bool.and_eq_true] at h
 have hbk := barsOk_mem h.2 hb
 rw [barOk_rest, Bool.and_eq_true, Bool.and_eq_true, Bool.and_eq_true, decide_eq_true_eq, decide_eq_true_eq, decide_eq_true_eq] at hbk
 have h1 := hbk.1.1.1; have h2 := hbk.1.1.2; have h3 := hbk.1.2
 exact ⟨by omega, by omega, by omega, by omega, h3, hy b hb⟩
theorem graphOk_le {w : List Int} {l : List tBar} (h : graphOk w l = true) : w.length <= 200 /\ l.length <= 1000 := by
 rw [graphOk, Bool.and_eq_true, Bool.and_eq_true, Bool.and_eq_true, decide_eq_true_eq, decide_eq_true_eq] at h
 exact ⟨h.1.1.1, h.1.1.2⟩
theorem fold_le {v : Int} : ∀ {l : List tBar} {q : trivals}, (l.foldl (nodeStep v) q).1.length <= q.1.length + l.length /\ (l.foldl (nodeStep v) q).2.length <= q.2.length + l.length
 | [], q => by simp
 | b :: l, q => by
  rw [List.foldl_cons]
  have ih := fold_le (v := v) (l := l) (q := nodeStep v q b)
  have : (nodeStep v q b).1.length <= q.1.length + 1 /\ (nodeStep v q b).2.length <= q.2.length + 1 := by
   unfold nodeStep
   have a1 := addN_len (x := b.2.1) (l := q.1)
   have a2 := addN_len (x := b.1) (l := q.1)
   have a3 := addN_len (x := b.2.2) (l := q.2)
   (repeat' split) <;> constructor <;> (try simp only []) <;> omega
  rw [List.length_cons]; omega
theorem crowd1_ev {p : trivals} (h1 : p.1.length <= 1048576) (h2 : p.2.length <= 1048576) (R : Nat -> Int -> Prop) :
  Ev (fun n => Z20.c n p (R n)) ↔ Ev (fun n => R n ((p.1.length : Int) + p.2.length)) := by
 refine Ev.suc.trans ?_
 simp (disch := omega) only [Z20.c, Z20.w, wrap64, Ev.s1 R]
end Go.Vsi
end

section
set_option linter.unusedVariables false
set_option linter.unusedSimpArgs false
set_option synthInstance.maxSize 4096
namespace Go.Vsi
def forb (has : List tBits) (v : Int) (y : tBar) : tBits :=
 if y.1 = v /\ y.2.1 < 0 then y.2.2 else if y.1 = v then rd has y.2.1.toNat else if y.2.1 = v then rd has y.1.toNat else (0, [])
def freeP (l : List tBar) (has : List tBits) (v : Int) (b : tBits) : Bool := !(l.any fun y => decide (forb has v y = b))
def riv (v : Int) (l : List tBar) : trivals := l.foldl (nodeStep v) ([], [])
def wk (w : Int) (k : Int) : tBits := (w, (W (List.replicate ((w + 63) / 64).toNat 0)).set 0 k)
def narrowP (l : List tBar) : List Int -> Int -> List Int
 | [], _ => []
 | w :: r, i => if w <= 10 /\ (2 : Int) ^ w.toNat <= ((riv i l).1.length : Int) + (riv i l).2.length then i :: narrowP l r (i + 1) else narrowP l r (i + 1)
def tryP (rec : List tBits -> Int -> Int × List tBits × Int) (s : Bool) (l : List tBar) (v w : Int) : Nat -> Int -> List tBits -> Int -> Int × List tBits × Int
 | 0, _, has, vis => (2, has, vis)
 | m + 1, k, has, vis =>
  if freeP l has v (wk w k) = true then
   (let r := rec (has.set v.toNat (wk w k)) vis
    if r.1 = 0 then r else if r.1 = 2 then tryP rec s l v w m (k + 1) (r.2.1.set v.toNat (0, [])) r.2.2
    else (r.1, (if s = true then r.2.1.set v.toNat (0, []) else r.2.1), r.2.2))
  else tryP rec s l v w m (k + 1) has vis
def searchP (s : Bool) (wd : List Int) (l : List tBar) (most : Int) : List Int -> List tBits -> Int -> Int × List tBits × Int
 | [], has, vis => (0, has, vis)
 | v :: r, has, vis => if vis = most then (3, has, vis) else tryP (searchP s wd l most r) s l v (rd wd v.toNat) (2 ^ (rd wd v.toNat).toNat) 0 has (vis + 1)
theorem fold_mem1 {v : Int} : ∀ {l : List tBar} {q : trivals} {x : Int}, x ∈ (l.foldl (nodeStep v) q).1 ↔ x ∈ q.1 \/ ∃ y ∈ l, 0 <= y.2.1 /\ (y.1 = v /\ x = y.2.1 \/ y.1 ≠ v /\ y.2.1 = v /\ x = y.1)
 | [], q, x => by simp
 | b :: l, q, x => by
  rw [List.foldl_cons, fold_mem1]
  simp only [List.mem_cons, exists_eq_or_imp]
  have : x ∈ (nodeStep v q b).1 ↔ x ∈ q.1 \/ 0 <= b.2.1 /\ (b.1 = v /\ x = b.2.1 \/ b.1 ≠ v /\ b.2.1 = v /\ x = b.1) := by
   unfold nodeStep
   by_cases h0 : b.2.1 >= 0
   ·rw [if_pos h0]
    by_cases h1 : b.1 = v
    ·rw [if_pos h1, mem_addN]; simp [h0, h1, or_comm]
    ·rw [if_neg h1]
     by_cases h2 : b.2.1 = v
     ·rw [if_pos h2, mem_addN]; subst h2; simp only [h1, ne_eq, not_false_eq_true, true_and, false_and, false_or, show 0 <= b.2.1 from h0]; exact or_comm
     ·rw [if_neg h2]; simp [h1, h2]
   ·rw [if_neg h0]
    have : ¬ 0 <= b.2.1 := h0
    split <;> simp [this]
  rw [this, or_assoc]
theorem fold_mem2 {v : Int} : ∀ {l : List tBar} {q : trivals} {x : tBits}, x ∈ (l.foldl (nodeStep v) q).2 ↔ x ∈ q.2 \/ ∃ y ∈ l, y.2.1 < 0 /\ y.1 = v /\ x = y.2.2
 | [], q, x => by simp
 | b :: l, q, x => by
  rw [List.foldl_cons, fold_mem2]
  simp only [List.mem_cons, exists_eq_or_imp]
  have : x ∈ (nodeStep v q b).2 ↔ x ∈ q.2 \/ b.2.1 < 0 /\ b.1 = v /\ x = b.2.2 := by
   unfold nodeStep
   by_cases h0 : b.2.1 >= 0
   ·have : ¬ b.2.1 < 0 := by omega
    rw [if_pos h0]; (repeat' split) <;> simp [this]
   ·have : b.2.1 < 0 := by omega
    rw [if_neg h0]
    by_cases h1 : b.1 = v
    ·rw [if_pos h1, mem_addN]; simp [this, h1, or_comm]
    ·rw [if_neg h1]; simp [h1]
  rw [this, or_assoc]
theorem free_riv {l : List tBar} {has : List tBits} {v : Int} {b : tBits} (hb : b.1 ≠ 0) (h : ∀ y ∈ l, -1 <= y.2.1) (hv : 0 <= v) :
  freeP l has v b = (!(decide (b ∈ (riv v l).2)) && !((riv v l).1.any fun y => decide (rd has y.toNat = b))) := by
 unfold freeP riv
 rw [<- Bool.not_or]
 congr 1
 rw [Bool.eq_iff_iff, List.any_eq_true, Bool.or_eq_true, decide_eq_true_eq, fold_mem2, List.any_eq_true]
 simp only [fold_mem1, decide_eq_true_eq, List.not_mem_nil, false_or]
 constructor
 ·rintro ⟨y, hy, e⟩
  unfold forb at e
  by_cases h1 : y.1 = v /\ y.2.1 < 0
  ·rw [if_pos h1] at e; exact .inl ⟨y, hy, h1.2, h1.1, e.symm⟩
  rw [if_neg h1] at e
  by_cases h2 : y.1 = v
  ·rw [if_pos h2] at e; exact .inr ⟨y.2.1, ⟨y, hy, by omega, .inl ⟨h2, rfl⟩⟩, e⟩
  rw [if_neg h2] at e
  by_cases h3 : y.2.1 = v
  ·rw [if_pos h3] at e; exact .inr ⟨y.1, ⟨y, hy, by omega, .inr ⟨h2, h3, rfl⟩⟩, e⟩
  ·rw [if_neg h3] at e; rw [<- e] at hb; exact absurd rfl hb
 ·rintro (⟨y, hy, h1, h2, e⟩ | ⟨x, ⟨y, hy, h0, (⟨h2, rfl⟩ | ⟨h2, h3, rfl⟩)⟩, e⟩)
  ·exact ⟨y, hy, by rw [forb, if_pos ⟨h2, h1⟩, e]⟩
  ·exact ⟨y, hy, by rw [forb, if_neg (by omega), if_pos h2, e]⟩
  ·exact ⟨y, hy, by rw [forb, if_neg (by omega), if_neg h2, if_pos h3, e]⟩
def InP (p : tpainter) (y : Int) : Prop := 0 <= y /\ y < (p.2.2.2.2.1.length : Int) /\ ∀ z ∈ p.2.2.2.2.1, z.2.length <= 1099511627776
theorem pfree1_ev {p : tpainter} {b : tBits} {y : Int} (h : InP p y) (R : Nat -> Bool -> Prop) :
  Ev (fun n => Z16.c n y p b (R n)) ↔ Ev (fun n => R n (decide (rd p.2.2.2.2.1 y.toNat = b))) := by
 obtain ⟨h0, h1, hw⟩ := h
 have hl : (rd p.2.2.2.2.1 y.toNat).2.length <= 1099511627776 := by
  rw [rd, List.getD_eq_getElem?_getD, List.getElem?_eq_getElem (by omega)]; exact hw _ (List.getElem_mem _)
 refine Ev.suc.trans ?_
 simp (disch := omega) only [Z16.c, Z16.w, grd_dec2]
 rw [same1_ev hl, Ev.s1 R]
theorem Z35_lp {l : List Int} {p : tpainter} {b : tBits} (hl : l.length <= 1099511627776) : ∀ (ys : List Int) (x : Int), l.drop x.toNat = ys -> 0 <= x -> (∀ y : Int, y ∈ ys -> InP p y) ->
  ∀ (Kx : Nat -> Prop) (Kr : Nat -> Int -> Prop),
  (Ev (fun n => Z35.l2 n l p b l.length x (Kx n) (Kr n)) ↔ if firstIx (fun y => decide (rd p.2.2.2.2.1 y.toNat = b)) ys x < 0 then Ev Kx else Ev (fun n => Kr n (firstIx (fun y => decide (rd p.2.2.2.2.1 y.toNat = b)) ys x)))
 | [], x, h, h0, hy, Kx, Kr => by
  have := drop_nil h h0
  rw [firstIx, if_pos (by decide)]
  refine Ev.suc.trans ?_
  simp (disch := omega) only [Z35.l2, Z35.l2.b, if_neg, decide_eq_true_eq, Ev.s0 Kx]
 | y :: ys, x, h, h0, hy, Kx, Kr => by
  obtain ⟨e1, e2, e3⟩ := drop_cons h h0
  have hy0 := hy y List.mem_cons_self
  refine Ev.suc.trans ?_
  simp (disch := first | omega | assumption) only [Z35.l2, Z35.l2.b, if_pos, decide_eq_true_eq, grd_dec2, e2, wrap64, Ev.s1 Kr, pfree1_ev, Ev.iteI]
  rw [Z35_lp hl ys (x + 1) e3 (by omega) (fun y hy' => hy y (List.mem_cons_of_mem _ hy')), Ev.s0 Kx, Ev.s1 Kr]
  simp only [firstIx, decide_eq_true_eq]
  split
  ·rw [if_neg (by omega)]
  ·rfl
theorem Z35_ev {l : List Int} {p : tpainter} {b : tBits} (hl : l.length <= 1099511627776) (hy : ∀ y : Int, y ∈ l -> InP p y) (R : Nat -> Int -> Prop) :
  Ev (fun n => Z35.c n l p b (R n)) ↔ Ev (fun n => R n (firstIx (fun y => decide (rd p.2.2.2.2.1 y.toNat = b)) l 0)) := by
 refine Ev.suc.trans ?_
 simp only [Z35.c, Z35.w]
 rw [Z35_lp hl l 0 rfl (by omega) hy, Ev.s1 R, Ev.s1 R]
 split
 ·rw [firstIx_neg (by omega) ‹_›]
 ·rfl
theorem Z29_ev {l : List Int} {p : tpainter} {b : tBits} (hl : l.length <= 1099511627776) (hy : ∀ y : Int, y ∈ l -> InP p y) (R : Nat -> Bool -> Prop) :
  Ev (fun n => Z29.c n l p b (R n)) ↔ Ev (fun n => R n (l.any fun y => decide (rd p.2.2.2.2.1 y.toNat = b))) := by
 refine Ev.suc.trans ?_
 simp only [Z29.c, Z29.w]
 rw [Z35_ev hl hy, Ev.s1 R, firstIx_any (by omega)]
def Has (w : List Int) (has : List tBits) : Prop := has.length = w.length /\ ∀ z ∈ has, z.2.length <= 64
theorem Has.set {w : List Int} {has : List tBits} {i : Nat} {b : tBits} (h : Has w has) (hb : b.2.length <= 64) : Has w (has.set i b) :=
 ⟨by rw [List.length_set]; exact h.1, fun z hz => by
  rcases List.mem_or_eq_of_mem_set hz with hz | rfl
  ·exact h.2 z hz
  ·exact hb⟩
theorem wk_len {w k : Int} (h0 : 0 <= w) (h1 : w <= 4096) : (wk w k).2.length <= 64 := by
 simp only [wk, List.length_set, W_len, List.length_replicate]; omega
theorem rivs_len {w : List Int} {l : List tBar} : (rivGo l (List.replicate w.length ([], []))).length = w.length := by
 rw [rivGo_len, List.length_replicate]
theorem riv_le {v : Int} {l : List tBar} : (riv v l).1.length <= l.length /\ (riv v l).2.length <= l.length := by
 have := fold_le (v := v) (l := l) (q := ([], []))
 simpa [riv] using this
theorem riv_in {w : List Int} {l : List tBar} (hg : ∀ b ∈ l, InG w.length b) {v : Int} : ∀ y ∈ (riv v l).1, 0 <= y /\ y < (w.length : Int) := fun y hy => by
 rw [riv, fold_mem1] at hy
 rcases hy with hy | ⟨b, hb, h0, h | h⟩
 ·cases hy
 ·rw [h.2]; exact ⟨h0, (hg b hb).2.2.2.1⟩
 ·rw [h.2.2]; exact ⟨(hg b hb).1, (hg b hb).2.1⟩
theorem pfree_ev {w : List Int} {l : List tBar} (hw : w.length <= 200) (hl : l.length <= 1000) (hg : ∀ b ∈ l, InG w.length b) {has : List tBits} (hh : Has w has) {nar : List Int} {vis most v : Int} (h0 : 0 <= v) (hv : v < (w.length : Int))
  {b : tBits} (hb : b.1 ≠ 0) (hbl : b.2.length <= 64) (R : Nat -> Bool -> Prop) :
  Ev (fun n => Z15.c n (w, l, rivGo l (List.replicate w.length ([], [])), nar, has, vis, most) v b.1 b.2 (R n)) ↔ Ev (fun n => R n (freeP l has v b)) := by
 have hr := rivs_len (w := w) (l := l)
 have hle := riv_le (v := v) (l := l)
 have hin := riv_in hg (v := v)
 rw [free_riv hb (fun y hy => (hg y hy).2.2.1) h0]
 refine Ev.suc.trans ?_
 simp (disch := omega) only [Z15.c, Z15.w, grd_dec2]
 rw [show rd (rivGo l (List.replicate w.length ([], []))) v.toNat = riv v l from crowdI_ev hw hl hg h0 hv]
 have hy : ∀ y ∈ (riv v l).1, InP (w, l, rivGo l (List.replicate w.length ([], [])), nar, has, vis, most) y := fun y hy => by
  have := hin y hy
  have e := hh.1
  exact ⟨this.1, by show y < (has.length : Int); omega, fun z hz => by have := hh.2 z hz; omega⟩
 rw [Z28_ev (by omega) (fun _ _ => by omega), any_memB]
 simp only [Ev.iteI, Bool.not_eq_true']
 rw [Z29_ev (by omega) hy, Ev.s1 R, Ev.s1 R]
 by_cases hm : b ∈ (riv v l).2
 ·rw [if_neg (by simpa using hm)]
  refine ev_arg ?_
  simp [hm]
 ·rw [if_pos (by simpa using hm)]
  refine ev_arg ?_
  simp [hm]
theorem Z0_ev {w k : Int} (h1 : 1 <= w) (h2 : w <= 4096) (hk : 0 <= k) (hkw : w < 63 -> k < 2 ^ w.toNat) (hk' : k < 9223372036854775808) (R : Nat -> Int -> List Int -> Bool -> Prop) :
  Ev (fun n => Z0.c n w k (R n)) ↔ Ev (fun n => R n (wk w k).1 (wk w k).2 true) := by
 have hj : ∀ R : Nat -> Int -> List Int -> Bool -> Prop, Ev (fun n => Z0.j0 (R n) w k n false) ↔ Ev (fun n => R n (wk w k).1 (wk w k).2 true) := fun R => by
  simp only [Z0.j0, Bool.false_eq_true, if_false]
  rw [zero_ev (by omega) (by omega)]
  rw [show IntKind.wrap .u64 k = k from wrapU hk (by omega)]
  have hp : (0 : Int) < ((W (List.replicate ((w + 63) / 64).toNat 0)).length : Int) := by rw [W_len, List.length_replicate]; omega
  simp only [grd_dec hp, wk]
 refine Ev.suc.trans ?_
 simp only [Z0.c, Z0.w]
 rw [inside_ev]
 have i1 : decide (1 <= w /\ w <= 4096) = true := by simp; omega
 simp only [i1, Bool.not_true, if_true, Ev.iteI]
 rw [if_pos (by simp; omega)]
 by_cases h : w < 63
 ·rw [if_pos (by simpa using h)]
  have hd : Int.fdiv k (2 ^ (Nat.min w.toNat 64)) = 0 := by
   rw [show Nat.min w.toNat 64 = w.toNat from Nat.min_eq_left (by omega), fdivP (Int.le_of_lt (Int.pow_pos (by decide)))]
   exact Int.ediv_eq_zero_of_lt hk (hkw h)
  simp (disch := omega) only [grd_dec, hd, decide_true, Bool.not_true]
  rw [hj, Ev.s3 R]
 ·rw [if_neg (by simpa using h), hj, Ev.s3 R]
end Go.Vsi
end

section
set_option linter.unusedVariables false
set_option linter.unusedSimpArgs false
set_option synthInstance.maxSize 4096
namespace Go.Vsi
theorem pow_le {w : Int} (h0 : 1 <= w) (h : w <= 10) : (2 : Int) <= 2 ^ w.toNat /\ (2 : Int) ^ w.toNat <= 1024 := by
 have e : ∃ m : Nat, m <= 10 /\ 1 <= m /\ w.toNat = m := ⟨w.toNat, by omega, by omega, rfl⟩
 obtain ⟨m, h1, h2, e⟩ := e
 rw [e]
 match m, h1, h2 with
 | 1, _, _ | 2, _, _ | 3, _, _ | 4, _, _ | 5, _, _ | 6, _, _ | 7, _, _ | 8, _, _ | 9, _, _ | 10, _, _ => decide
theorem shl1 {w : Int} (h0 : 1 <= w) (h : w <= 10) : IntKind.wrap .i64 (1 * 2 ^ (Nat.min w.toNat 64)) = 2 ^ w.toNat := by
 have := pow_le h0 h
 rw [show Nat.min w.toNat 64 = w.toNat from Nat.min_eq_left (by omega), Int.one_mul, wrap64 (by omega) (by omega)]
theorem widths_all : ∀ {w : List Int}, widthsOk w = true -> ∀ x ∈ w, 1 <= x /\ x <= 4096
 | [], _, x, hx => by cases hx
 | a :: w, h, x, hx => by
  rw [widthsOk, Bool.and_eq_true, decide_eq_true_eq] at h
  rcases List.mem_cons.1 hx with rfl | hx
  ·exact h.1
  ·exact widths_all h.2 x hx
theorem graphOk_w {w : List Int} {l : List tBar} (h : graphOk w l = true) : ∀ x ∈ w, 1 <= x /\ x <= 4096 := by
 rw [graphOk, Bool.and_eq_true, Bool.and_eq_true] at h; exact widths_all h.1.2
theorem rd_mem {α : Type} [Inhabited α] {l : List α} {i : Nat} (h : i < l.length) : rd l i ∈ l := by
 rw [rd, List.getD_eq_getElem?_getD, List.getElem?_eq_getElem h]; exact List.getElem_mem _
theorem np_lp {w : List Int} {l : List tBar} (hw : w.length <= 200) (hl : l.length <= 1000) (hg : ∀ b ∈ l, InG w.length b) (hW : ∀ x ∈ w, 1 <= x /\ x <= 4096) {x83 : List tBits} {most vis : Int} : ∀ (ys : List Int) (x : Int) (nar : List Int), w.drop x.toNat = ys -> 0 <= x -> nar.length + ys.length <= 200 ->
  ∀ (Kx : Nat -> List trivals -> List tBits -> List Int -> List Int -> List tBar -> Int -> Int -> Prop),
  Ev (fun n => Z14.l3 n w w.length (rivGo l (List.replicate w.length ([], []))) x83 w l vis most x nar (Kx n)) ↔ Ev (fun n => Kx n (rivGo l (List.replicate w.length ([], []))) x83 (nar ++ narrowP l ys x) w l vis most)
 | [], x, nar, h, h0, hn, Kx => by
  have := drop_nil h h0
  refine Ev.suc.trans ?_
  simp (disch := omega) only [Z14.l3, Z14.l3.b, if_neg, decide_eq_true_eq, Ev.s7 Kx, narrowP, List.append_nil]
 | y :: ys, x, nar, h, h0, hn, Kx => by
  obtain ⟨e1, e2, e3⟩ := drop_cons h h0
  have hy := hW y (e2 ▸ rd_mem (by omega))
  have hr := rivs_len (w := w) (l := l)
  have hle := riv_le (v := x) (l := l)
  rw [List.length_cons] at hn
  have ih := fun nar' hn' => np_lp hw hl hg hW ys (x + 1) nar' e3 (by omega) hn' (fun n => Kx (n + 1)) (x83 := x83) (most := most) (vis := vis)
  refine Ev.suc.trans ?_
  simp (disch := omega) only [Z14.l3, Z14.l3.b, Z14.j1, if_pos, decide_eq_true_eq, grd_dec2, e2, wrap64, Ev.iteI, Bool.false_eq_true, if_false]
  have hlen : ([x] : List Int).length = 1 := rfl
  by_cases h1 : y <= 10
  ·rw [if_pos h1, shl1 hy.1 h1]
   have e : rd (rivGo l (List.replicate w.length ([], []))) x.toNat = riv x l := crowdI_ev hw hl hg h0 e1
   rw [e]
   simp (disch := omega) only [grd_dec, hlen]
   rw [crowd1_ev (by omega) (by omega)]
   simp (disch := omega) only [grd_dec, hlen, Ev.iteI, decide_eq_true_eq]
   by_cases h2 : (2 : Int) ^ y.toNat <= ((riv x l).1.length : Int) + (riv x l).2.length
   ·rw [if_pos h2, ih _ (by simp; omega), Ev.s7 Kx, narrowP, if_pos ⟨h1, h2⟩, List.append_assoc]; rfl
   ·rw [if_neg h2, ih _ (by omega), Ev.s7 Kx, narrowP, if_neg (fun h => h2 h.2)]
  ·rw [if_neg h1, ih _ (by omega), Ev.s7 Kx, narrowP, if_neg (fun h => h1 h.1)]
theorem np_ev {w : List Int} {l : List tBar} (hw : w.length <= 200) (hl : l.length <= 1000) (hg : ∀ b ∈ l, InG w.length b) (hW : ∀ x ∈ w, 1 <= x /\ x <= 4096) {most : Int}
  (R : Nat -> List Int -> List tBar -> List trivals -> List Int -> List tBits -> Int -> Int -> Prop) :
  Ev (fun n => Z14.c n w l most (R n)) ↔ Ev (fun n => R n w l (rivGo l (List.replicate w.length ([], []))) (narrowP l w 0) (List.replicate w.length (0, [])) 0 most) := by
 have hn := np_lp hw hl hg hW w 0 [] rfl (by omega) (by simp; omega) (x83 := List.replicate w.length (0, [])) (most := most) (vis := 0) (fun n y122 y123 y124 y125 y126 y127 y128 => R (n + 1) y125 y126 y122 y124 y123 y127 y128)
 rw [List.nil_append] at hn
 refine Ev.suc.trans ?_
 simp (disch := omega) only [Z14.c, Z14.w, and_self, Int.toNat_natCast, decide_true, Bool.and_true, grd_dec2, grd_dec, Ev.andI, rivals_ev hw hl hg, hn, Ev.s7 R]
def Kept (w : List Int) (most : Int) (r : Int × List tBits × Int) : Prop := Has w r.2.1 /\ 0 <= r.2.2 /\ r.2.2 <= most /\ (r.1 = 0 \/ r.1 = 2 \/ r.1 = 3)
theorem tryP_kept {w : List Int} {l : List tBar} {most v wd : Int} {rec : List tBits -> Int -> Int × List tBits × Int} {s : Bool} (hwd : 0 <= wd) (hwd' : wd <= 4096) (hr : ∀ has vis, Has w has -> 0 <= vis -> vis <= most -> Kept w most (rec has vis)) :
  ∀ (m : Nat) (k : Int) (has : List tBits) (vis : Int), Has w has -> 0 <= vis -> vis <= most -> Kept w most (tryP rec s l v wd m k has vis)
 | 0, k, has, vis, h1, h2, h3 => ⟨h1, h2, h3, .inr (.inl rfl)⟩
 | m + 1, k, has, vis, h1, h2, h3 => by
  have hz : ∀ h : List tBits, Has w h -> Has w (h.set v.toNat (0, [])) := fun h hh => hh.set (by simp)
  unfold tryP
  by_cases hf : freeP l has v (wk wd k) = true
  ·rw [if_pos hf]
   obtain ⟨g1, g2, g3, g4⟩ := hr (has.set v.toNat (wk wd k)) vis (h1.set (wk_len hwd hwd')) h2 h3
   generalize rec (has.set v.toNat (wk wd k)) vis = r at g1 g2 g3 g4
   by_cases c0 : r.1 = 0
   ·simp only [c0, if_true]; exact ⟨g1, g2, g3, .inl c0⟩
   by_cases c2 : r.1 = 2
   ·simp only [c0, c2, if_true, if_false, show ¬ (2 : Int) = 0 from by decide]; exact tryP_kept hwd hwd' hr m (k + 1) _ _ (hz _ g1) g2 g3
   ·simp only [c0, c2, if_false]
    refine ⟨?_, g2, g3, g4⟩
    simp only []
    split
    ·exact hz _ g1
    ·exact g1
  ·rw [if_neg hf]; exact tryP_kept hwd hwd' hr m (k + 1) has vis h1 h2 h3
theorem searchP_kept {w : List Int} {l : List tBar} {most : Int} {s : Bool} (hW : ∀ v : Int, 0 <= rd w v.toNat /\ rd w v.toNat <= 4096) : ∀ (nar : List Int) (has : List tBits) (vis : Int), Has w has -> 0 <= vis -> vis <= most -> Kept w most (searchP s w l most nar has vis)
 | [], has, vis, h1, h2, h3 => ⟨h1, h2, h3, .inl rfl⟩
 | v :: nar, has, vis, h1, h2, h3 => by
  unfold searchP
  split
  ·exact ⟨h1, h2, h3, .inr (.inr rfl)⟩
  ·rename_i hm
   exact tryP_kept (hW v).1 (hW v).2 (fun has vis => searchP_kept hW nar has vis) _ 0 has (vis + 1) h1 (by omega) (by omega)
theorem rdW {w : List Int} (hW : ∀ x ∈ w, 1 <= x /\ x <= 4096) : ∀ v : Int, 0 <= rd w v.toNat /\ rd w v.toNat <= 4096 := fun v => by
 by_cases h : v.toNat < w.length
 ·have := hW _ (rd_mem h); omega
 ·rw [rd, List.getD_eq_getElem?_getD, List.getElem?_eq_none (by omega)]; simp [default]
section
variable {w : List Int} {l : List tBar} {nar : List Int} {most : Int}
structure GOk (w : List Int) (l : List tBar) (nar : List Int) (most : Int) : Prop where
 hw : w.length <= 200
 hl : l.length <= 1000
 hg : ∀ b ∈ l, InG w.length b
 hW : ∀ x ∈ w, 1 <= x /\ x <= 4096
 hn : ∀ v ∈ nar, 0 <= v /\ v < (w.length : Int) /\ rd w v.toNat <= 10
 hm : 0 <= most /\ most <= 20000
 hln : nar.length <= 200
theorem i_lt {wd i : Int} {m : Nat} (h1 : 1 <= wd) (h2 : wd <= 10) (h : i + (m + 1 : Nat) = 2 ^ wd.toNat) : i < 2 ^ wd.toNat /\ i < 1024 := by
 have := pow_le h1 h2; constructor <;> omega
theorem searchL {v wd k : Int} (hG : GOk w l nar most) (hv : 0 <= v /\ v < (w.length : Int)) (h1 : 1 <= wd) (h2 : wd <= 10) (hk : 0 <= k /\ k <= 1000) {rec : List tBits -> Int -> Int × List tBits × Int}
  (hrec : ∀ has vis, Has w has -> 0 <= vis -> vis <= most -> Kept w most (rec has vis))
  (ih : ∀ (has : List tBits) (vis : Int), Has w has -> 0 <= vis -> vis <= most -> ∀ R : Nat -> Int -> List Int -> List tBar -> List trivals -> List Int -> List tBits -> Int -> Int -> Prop,
   Ev (fun n => R n (rec has vis).1 w l (rivGo l (List.replicate w.length ([], []))) nar (rec has vis).2.1 (rec has vis).2.2 most) ->
   Ev (fun n => Z17.c n w l (rivGo l (List.replicate w.length ([], []))) nar has vis most (k + 1) (R n))) :
  ∀ (m : Nat) (i : Int), i + m = 2 ^ wd.toNat -> 0 <= i -> ∀ (has : List tBits) (vis : Int), Has w has -> 0 <= vis -> vis <= most ->
  ∀ (Kx : Nat -> List trivals -> List Int -> List tBits -> List Int -> List tBar -> Int -> Int -> Prop) (Kr : Nat -> Int -> List trivals -> List Int -> List tBits -> List Int -> List tBar -> Int -> Int -> Prop),
  ((tryP rec false l v wd m i has vis).1 = 2 -> Ev (fun n => Kx n (rivGo l (List.replicate w.length ([], []))) nar (tryP rec false l v wd m i has vis).2.1 w l (tryP rec false l v wd m i has vis).2.2 most)) ->
  ((tryP rec false l v wd m i has vis).1 ≠ 2 -> Ev (fun n => Kr n (tryP rec false l v wd m i has vis).1 (rivGo l (List.replicate w.length ([], []))) nar (tryP rec false l v wd m i has vis).2.1 w l (tryP rec false l v wd m i has vis).2.2 most)) ->
  Ev (fun n => Z17.l9 n k v wd (2 ^ wd.toNat) i (rivGo l (List.replicate w.length ([], []))) nar has w l vis most (Kx n) (Kr n))
 | 0, i, h, h0, has, vis, g1, g2, g3, Kx, Kr, hx, hr => by
  refine Ev.succ ?_
  simp only [Z17.l9_s, Z17.l9.b]
  exact Ev.neg (by simp; omega) (hx rfl).shift
 | m + 1, i, h, h0, has, vis, g1, g2, g3, Kx, Kr, hx, hr => by
  have hi := i_lt h1 h2 h
  refine Ev.succ ?_
  simp only [Z17.l9_s, Z17.l9.b]
  refine Ev.pos (by simp; omega) ?_
  rw [Z0_ev h1 (by omega) h0 (fun _ => hi.1) (by omega), pfree_ev hG.hw hG.hl hG.hg g1 hv.1 hv.2 (by show wd ≠ 0; omega) (wk_len (by omega) (by omega))]
  unfold tryP at hx hr
  by_cases hf : freeP l has v (wk wd i) = true
  rotate_left
  ·rw [if_neg hf] at hx hr
   rw [wrap64 (x := i + 1) (by omega) (by omega)]
   exact Ev.pos (by simpa using hf) (searchL hG hv h1 h2 hk hrec ih m (i + 1) (by omega) (by omega) has vis g1 g2 g3 (fun n => Kx (n + 1)) (fun n => Kr (n + 1)) (fun e => (hx e).shift) (fun e => (hr e).shift))
  rw [if_pos hf] at hx hr
  have e1 := g1.1
  have hs : Has w (has.set v.toNat (wk wd i)) := g1.set (wk_len (by omega) (by omega))
  obtain ⟨k1, k2, k3, k4⟩ := hrec (has.set v.toNat (wk wd i)) vis hs g2 g3
  rw [wrap64 (x := k + 1) (by omega) (by omega), wrap64 (x := i + 1) (by omega) (by omega)]
  refine Ev.neg (by simpa using hf) (Ev.grd (by simp; omega) (ih _ vis hs g2 g3 _ ?_))
  generalize rec (has.set v.toNat (wk wd i)) vis = r at hx hr k1 k2 k3 k4
  by_cases c0 : r.1 = 0
  ·simp only [c0, if_true] at hx hr
   rw [c0]
   exact Ev.pos (by simp) (hr (by decide)).shift
  by_cases c2 : r.1 = 2
  ·simp only [c0, c2, if_true, if_false, show ¬ (2 : Int) = 0 from by decide] at hx hr
   have e2 := k1.1
   refine Ev.neg (by simp [c2]) (Ev.grd (by simp; omega) ?_)
   exact searchL hG hv h1 h2 hk hrec ih m (i + 1) (by omega) (by omega) _ r.2.2 (k1.set (by simp)) k2 k3 (fun n => Kx (n + 1)) (fun n => Kr (n + 1)) (fun e => (hx e).shift) (fun e => (hr e).shift)
  ·simp only [c0, c2, if_false, Bool.false_eq_true] at hx hr
   exact Ev.pos (by simp [c2]) (by have := hr (by exact c2); exact this.shift)
theorem search_wp (hG : GOk w l nar most) : ∀ (ys : List Int) (k : Int), nar.drop k.toNat = ys -> 0 <= k -> k + ys.length = nar.length -> ∀ (has : List tBits) (vis : Int), Has w has -> 0 <= vis -> vis <= most ->
  ∀ R : Nat -> Int -> List Int -> List tBar -> List trivals -> List Int -> List tBits -> Int -> Int -> Prop,
  Ev (fun n => R n (searchP false w l most ys has vis).1 w l (rivGo l (List.replicate w.length ([], []))) nar (searchP false w l most ys has vis).2.1 (searchP false w l most ys has vis).2.2 most) ->
  Ev (fun n => Z17.c n w l (rivGo l (List.replicate w.length ([], []))) nar has vis most k (R n))
 | [], k, h, h0, hk, has, vis, g1, g2, g3, R, hR => by
  refine Ev.succ ?_
  simp only [Z17.c_s, Z17.w]
  rw [List.length_nil] at hk
  exact Ev.pos (by simp; omega) (Ev.shift hR)
 | v :: ys, k, h, h0, hk, has, vis, g1, g2, g3, R, hR => by
  obtain ⟨e1, e2, e3⟩ := drop_cons h h0
  have hln := hG.hln
  have hm := hG.hm
  rw [List.length_cons] at hk
  have hv := hG.hn v (e2 ▸ rd_mem (by omega))
  have hwd := hG.hW _ (rd_mem (l := w) (i := v.toNat) (by omega))
  have ih := search_wp hG ys (k + 1) e3 (by omega) (by omega)
  refine Ev.succ ?_
  simp only [Z17.c_s, Z17.w]
  unfold searchP at hR
  refine Ev.neg (by simp; omega) ?_
  by_cases hq : vis = most
  ·rw [if_pos hq] at hR
   exact Ev.pos (by simpa using hq) (Ev.shift hR)
  rw [if_neg hq] at hR
  rw [e2, shl1 hwd.1 hv.2.2, wrap64 (x := vis + 1) (by omega) (by omega)]
  refine Ev.neg (by simpa using hq) (Ev.grd (by simp; omega) (Ev.grd (by simp; omega) (Ev.grd (by simp; omega) ?_)))
  have hp := pow_le hwd.1 hv.2.2
  refine searchL hG ⟨hv.1, hv.2.1⟩ hwd.1 hv.2.2 ⟨h0, by omega⟩ (fun has vis => searchP_kept (rdW hG.hW) ys has vis) ih (2 ^ (rd w v.toNat).toNat) 0 (by rw [Int.zero_add]; norm_cast) (by omega) has (vis + 1) g1 (by omega) (by omega) _ _ (fun e => ?_) (fun e => ?_)
  ·rw [e] at hR; exact Ev.shift hR
  ·exact Ev.shift hR
end
end Go.Vsi
end

section
set_option linter.unusedVariables false
set_option linter.unusedSimpArgs false
set_option synthInstance.maxSize 4096
namespace Go.Vsi
def wkN (w k : Nat) : List Nat := (List.replicate ((w + 63) / 64) 0).set 0 k
theorem wk_N {w k : Nat} : wk w k = ((w : Int), W (wkN w k)) := by
 simp only [wk, wkN, <- W_set]
 rw [show (((w : Int) + 63) / 64).toNat = (w + 63) / 64 from by omega]
theorem wkN_len {w k : Nat} : (wkN w k).length = (w + 63) / 64 := by simp [wkN]
theorem small63 {w k : Nat} (hk : k < 2 ^ min w 63) : k < 9223372036854775808 :=
 Nat.lt_of_lt_of_le hk (Nat.pow_le_pow_right (n := 2) (by decide) (Nat.min_le_right _ _))
theorem small_lt {w k : Nat} (hk : k <= 1001) (h : w <= 10 -> k < 2 ^ w) : k < 2 ^ min w 63 := by
 by_cases hw : w <= 10
 ·rw [Nat.min_eq_left (by omega)]; exact h hw
 ·exact Nat.lt_of_lt_of_le (by omega : k < 2 ^ 11) (Nat.pow_le_pow_right (by decide) (by omega))
theorem wkN_bit {w k i : Nat} (h1 : 1 <= w) : bit (wkN w k) i = (decide (i < 64) && k.testBit i) := by
 rw [wkN, bit_set (by simp; omega)]
 by_cases h : i < 64
 ·rw [if_pos (by omega), show i % 64 = i from by omega]; simp [h]
 ·rw [if_neg (by omega), bit_rep]; simp [h]
theorem wkN_ok {w k : Nat} (h1 : 1 <= w) (h2 : w <= 4096) (hk : k < 2 ^ min w 63) : Ok w (wkN w k) := by
 refine ⟨by omega, by omega, by rw [wkN_len]; omega, fun x hx => ?_, fun i hi => ?_⟩
 ·rcases List.mem_or_eq_of_mem_set hx with hx | rfl
  ·rw [List.eq_of_mem_replicate hx]; omega
  ·have := small63 hk; omega
 ·rw [wkN_bit h1, Nat.testBit_lt_two_pow (Nat.lt_of_lt_of_le hk (Nat.pow_le_pow_right (by decide) (by omega))), Bool.and_false]
theorem wkN_pk {w k : Nat} (h1 : 1 <= w) (h2 : w <= 4096) (hk : k < 2 ^ min w 63) : wkN w k = pk w k.testBit :=
 pk_of (wkN_ok h1 h2 hk) fun i hi => by
  rw [wkN_bit h1]
  by_cases h : i < 64
  ·simp [h]
  ·rw [Nat.testBit_lt_two_pow (Nat.lt_of_lt_of_le hk (Nat.pow_le_pow_right (n := 2) (by decide) (by omega)))]; simp
theorem ones_ev {x : Nat} (hx : x < 18446744073709551616) (R : Nat -> Int -> Prop) (hR : Ev fun n => R n ((cnt x.testBit 64 : Nat) : Int)) : Ev fun n => Z24.c n x (R n) := by
 obtain ⟨t3, t5, t6, t8, t9, t10, e3, b3, e5, b5, e6, b6, e8, b8, e9, b9, e10, b10, e⟩ := ones_W x hx
 apply Ev.succ
 simp only [Z24.c, Z24.w]
 have f : ∀ (y k m : Nat), 2 ^ k = m -> Int.fdiv (y : Int) (2 ^ k) = ((y / m : Nat) : Int) := fun y k m hm => by
  rw [fdivP (Int.le_of_lt (Int.pow_pos (by decide))), <- hm]; simp
 have m5 : (6148914691236517205 : Int) = ((6148914691236517205 : Nat) : Int) := rfl
 have m3 : (3689348814741910323 : Int) = ((3689348814741910323 : Nat) : Int) := rfl
 have mf : (1085102592571150095 : Int) = ((1085102592571150095 : Nat) : Int) := rfl
 have a3 : IntKind.wrap .u64 (ibits .and .u64 (Int.fdiv (x : Int) (2 ^ 1)) 6148914691236517205 + ibits .and .u64 (x : Int) 6148914691236517205) = (t3 : Int) := by
  rw [f _ 1 2 rfl, m5, and_W (by omega) (by decide), and_W hx (by decide), wrapU (by omega) (by omega)]; omega
 have a5 : IntKind.wrap .u64 (ibits .and .u64 (Int.fdiv (t3 : Int) (2 ^ 2)) 3689348814741910323 + ibits .and .u64 (t3 : Int) 3689348814741910323) = (t5 : Int) := by
  rw [f _ 2 4 rfl, m3, and_W (by omega) (by decide), and_W b3 (by decide), wrapU (by omega) (by omega)]; omega
 have a6 : IntKind.wrap .u64 (Int.fdiv (t5 : Int) (2 ^ 4) + (t5 : Int)) = (t6 : Int) := by
  rw [f _ 4 16 rfl, wrapU (by omega) (by omega)]; omega
 have a8 : IntKind.wrap .u64 (ibits .and .u64 (t6 : Int) 1085102592571150095 + Int.fdiv (ibits .and .u64 (t6 : Int) 1085102592571150095) (2 ^ 8)) = (t8 : Int) := by
  rw [mf, and_W b6 (by decide), f _ 8 256 rfl, wrapU (by omega) (by omega)]; omega
 have a9 : IntKind.wrap .u64 ((t8 : Int) + Int.fdiv (t8 : Int) (2 ^ 16)) = (t9 : Int) := by
  rw [f _ 16 65536 rfl, wrapU (by omega) (by omega)]; omega
 have a10 : IntKind.wrap .u64 ((t9 : Int) + Int.fdiv (t9 : Int) (2 ^ 32)) = (t10 : Int) := by
  rw [f _ 32 4294967296 rfl, wrapU (by omega) (by omega)]; omega
 rw [a3, a5, a6, a8, a9, a10, wrap64 (by omega) (by omega)]
 have a127 : ibits .and .i64 (t10 : Int) 127 = ((cnt x.testBit 64 : Nat) : Int) := by
  show IntKind.wrap .i64 (((BitVec.ofInt 64 (t10 : Int) &&& BitVec.ofInt 64 (127 : Int) : BitVec 64).toNat : Nat) : Int) = _
  rw [BitVec.toNat_and, BitVec.ofInt_natCast, show (BitVec.ofInt 64 (127 : Int)).toNat = 127 from rfl, BitVec.toNat_ofNat, Nat.mod_eq_of_lt (by omega),
   show (127 : Nat) = 2 ^ 7 - 1 from rfl, Nat.and_two_pow_sub_one_eq_mod, show 2 ^ 7 = 128 from rfl, wrap64 (by omega) (by omega), e]
 rw [a127]
 exact hR.shift
theorem cnt_words (ws : List Nat) : ∀ k, cnt (bit ws) (64 * (k + 1)) = cnt (bit ws) (64 * k) + cnt (ws.getD k 0).testBit 64 := fun k => by
 rw [show 64 * (k + 1) = 64 * k + 64 from by omega, cnt_add]
 congr 1
 apply cnt_ext
 intro i hi
 rw [bit, show (64 * k + i) / 64 = k from by omega, show (64 * k + i) % 64 = i from by omega]
theorem count_lp {ws : List Nat} (hw : Below 18446744073709551616 ws) (hl : ws.length <= 4096) : ∀ (m k : Nat), k + m = ws.length ->
  ∀ R : Nat -> Int -> Prop, Ev (fun n => R n ((cnt (bit ws) (64 * ws.length) : Nat) : Int)) -> Ev (fun n => Z6.l5 n (W ws) ws.length ((cnt (bit ws) (64 * k) : Nat) : Int) k (R n))
 | 0, k, h, R, hR => by
  apply Ev.succ
  simp only [Z6.l5, Z6.l5.b]
  have : k = ws.length := by omega
  subst this
  exact Ev.neg (by simp) hR.shift
 | m + 1, k, h, R, hR => by
  have c1 := cnt_le (bit ws) (64 * k)
  have c2 := cnt_le (ws.getD k 0).testBit 64
  apply Ev.succ
  simp only [Z6.l5, Z6.l5.b, W_len, Int.toNat_natCast, W_rd]
  refine Ev.pos (by simp; omega) (Ev.grd (by simp; omega) (ones_ev (hw.getD (by decide) _) _ ?_))
  rw [show IntKind.wrap .i64 ((k : Int) + 1) = ((k + 1 : Nat) : Int) from wrap64 (by omega) (by omega), wrap64 (by omega) (by omega)]
  have := count_lp hw hl m (k + 1) (by omega) (fun n => R (n + 1)) hR.shift
  rw [cnt_words] at this
  exact_mod_cast this
theorem count_ev {w : Int} {ws : List Nat} (h : Ok w ws) (R : Nat -> Int -> Prop) (hR : Ev fun n => R n ((cnt (bit ws) w.toNat : Nat) : Int)) : Ev (fun n => Z6.c n w (W ws) (R n)) := by
 have hlen := h.len
 have hhi := h.hi
 have hlo := h.lo
 have e : cnt (bit ws) (64 * ws.length) = cnt (bit ws) w.toNat := by
  rw [show 64 * ws.length = w.toNat + (64 * ws.length - w.toNat) from by omega, cnt_add, cnt_zero (f := fun i => bit ws (w.toNat + i)) (fun i _ => h.top _ (by omega))]; rfl
 refine Ev.succ ?_
 simp only [Z6.c, Z6.w]
 rw [implOk_ev, h.bits, W_len]
 refine Ev.neg (by simp) ?_
 exact count_lp h.words (by omega) ws.length 0 (by omega) (fun n => R (n + 1)) (by rw [e]; exact hR.shift)
theorem cnt_full {f : Nat -> Bool} : ∀ {n : Nat}, cnt f n = n ↔ ∀ i, i < n -> f i = true
 | 0 => by simp [cnt]
 | n + 1 => by
  have h := @cnt_full f n
  have hle := cnt_le f n
  simp only [cnt]
  constructor
  ·intro e i hi
   cases hn : f n with
   | false => rw [hn] at e; simp at e; omega
   | true =>
    rw [hn] at e
    simp at e
    rcases Nat.lt_or_eq_of_le (Nat.le_of_lt_succ hi) with h' | rfl
    ·exact h.mp e i h'
    ·exact hn
  ·intro hall
   rw [hall n (by omega), h.mpr fun i hi => hall i (by omega)]; rfl
theorem zero_bit {k m : Nat} (h : k + 1 < 2 ^ m) : ∃ i, i < m /\ k.testBit i = false := by
 refine Classical.byContradiction fun hn => ?_
 have hall : ∀ i, i < m -> k.testBit i = true := fun i hi => by
  cases hb : k.testBit i with
  | true => rfl
  | false => exact absurd ⟨i, hi, hb⟩ hn
 have : k = 2 ^ m - 1 := by
  apply Nat.eq_of_testBit_eq
  intro i
  rw [Nat.testBit_two_pow_sub_one]
  by_cases hi : i < m
  ·rw [hall i hi]; simp [hi]
  ·rw [Nat.testBit_lt_two_pow (Nat.lt_of_lt_of_le (by omega : k < 2 ^ m) (Nat.pow_le_pow_right (by decide) (by omega)))]; simp [hi]
 omega
theorem nextI_wp {w k : Nat} (h1 : 1 <= w) (h2 : w <= 4096) (hk : k + 1 < 2 ^ min w 63) (R : Nat -> Int -> List Int -> Bool -> Prop) (hR : Ev fun n => R n w (W (wkN w (k + 1))) true) :
  Ev (fun n => Z9.c n w (W (wkN w k)) (R n)) := by
 have hok := wkN_ok h1 h2 (k := k) (by omega)
 have hs := small63 hk
 have hlen := wkN_len (w := w) (k := k)
 obtain ⟨i, hi, hb⟩ := zero_bit hk
 have hc : cnt (bit (wkN w k)) w ≠ w := fun e => by
  have := cnt_full.1 e i (by omega)
  rw [wkN_bit h1, hb] at this; simp at this
 have hg : (wkN w k).getD 0 0 = k := by
  rw [wkN, List.getD_eq_getElem?_getD, List.getElem?_set_self (by simp; omega)]; rfl
 have hset : (wkN w k).set 0 (k + 1) = wkN w (k + 1) := by rw [wkN, List.set_set]; rfl
 refine Ev.succ ?_
 simp only [Z9.c, Z9.w, Z9.j0, and_self]
 rw [implOk_ev, hok.bits]
 refine Ev.pos (by simp) (count_ev hok _ ?_)
 rw [Int.toNat_natCast]
 refine Ev.neg (by simp; omega) ?_
 rw [cloneBits_ev (by rw [W_len]; omega)]
 refine Ev.succ ?_
 simp only [Z9.l5, Z9.l5.b, W_len, W_rd, show (0 : Int).toNat = 0 from rfl, hg]
 rw [show IntKind.wrap .u64 ((k : Int) + 1) = ((k + 1 : Nat) : Int) from by rw [wrapU (by omega) (by omega)]; omega, W_set, hset]
 refine Ev.pos (by simp; omega) (Ev.grd (by simp; omega) (Ev.grd (by simp; omega) (Ev.grd (by rw [W_len, wkN_len]; simp; omega) (Ev.pos ?_ hR.shift.shift))))
 have hg' : (wkN w (k + 1)).getD 0 0 = k + 1 := by
  rw [wkN, List.getD_eq_getElem?_getD, List.getElem?_set_self (by simp; omega)]; rfl
 rw [W_rd, hg']; simp; omega
theorem succ_bit {k p : Nat} (hl : ∀ i, i < p -> k.testBit i = true) (hp : k.testBit p = false) (i : Nat) : (k + 1).testBit i = if i < p then false else if i = p then true else k.testBit i := by
 have e1 : k % 2 ^ p = 2 ^ p - 1 := by
  apply Nat.eq_of_testBit_eq
  intro j
  rw [Nat.testBit_mod_two_pow, Nat.testBit_two_pow_sub_one]
  by_cases hj : j < p
  ·rw [hl j hj]; simp
  ·simp [hj]
 have hpos : 0 < 2 ^ p := Nat.two_pow_pos p
 have hq : (k / 2 ^ p) % 2 = 0 := by
  have := hp
  rw [Nat.testBit_eq_decide_div_mod_eq] at this
  have h3 := of_decide_eq_false this
  omega
 have ek := Nat.div_add_mod k (2 ^ p)
 have e2 : k + 1 = 2 ^ p * (k / 2 ^ p + 1) + 0 := by rw [Nat.mul_add]; omega
 rw [e2, Nat.testBit_two_pow_mul_add _ hpos]
 by_cases h1 : i < p
 ·rw [if_pos h1, if_pos h1]; simp
 rw [if_neg h1, if_neg h1]
 by_cases h2 : i = p
 ·subst h2; rw [if_pos rfl, Nat.sub_self, Nat.testBit_zero]; simp; omega
 ·rw [if_neg h2]
  obtain ⟨d, rfl⟩ : ∃ d, i = p + 1 + d := ⟨i - p - 1, by omega⟩
  rw [show p + 1 + d - p = d + 1 from by omega, Nat.testBit_succ]
  rw [show (k / 2 ^ p + 1) / 2 = k / 2 ^ p / 2 from by omega, Nat.div_div_eq_div_mul, <- Nat.pow_succ, Nat.testBit_div_two_pow]
  congr 1; omega
theorem bl_set {w : Nat} {f : Nat -> Bool} {p : Nat} (b : Bool) : (bl w f).set p ((b.toNat : Nat) : Int) = bl w (fun i => if i = p then b else f i) := by
 apply List.ext_getElem (by simp [bl])
 intro i g1 g2
 simp only [bl, List.length_set, List.length_map, List.length_range] at g1
 rw [List.getElem_set]
 by_cases h : p = i
 ·subst h; simp [bl]
 ·rw [if_neg h]; simp [bl, show ¬ i = p from fun e => h e.symm]
theorem nextS_lp {w k : Nat} (h1 : 1 <= w) (h2 : w <= 4096) {x22 : List Int} {x23 : Int} {q : Nat} (hq : q < w) (hz : k.testBit q = false) : ∀ (d p : Nat), p + d = q -> (∀ i, i < p -> k.testBit i = true) -> ∀ (Kx : Nat -> List Int -> Int -> Prop) (R : Nat -> Bool -> List Int -> Int -> Prop), Ev (fun n => R n true (W (pk w (k + 1).testBit)) w) ->
  Ev (fun n => Z42.l5 n x22 x23 p (bl w fun i => if i < p then false else k.testBit i) (Kx n) (R n))
 | d, p, hd, hl, Kx, R, hR => by
  have hlen : ∀ f, (bl w f).length = w := bl_len w
  refine Ev.succ ?_
  simp only [Z42.l5, Z42.l5.b]
  have e0 : rd (bl w fun i => if i < p then false else k.testBit i) p = ((k.testBit p).toNat : Int) := by rw [bl_rd (by omega)]; simp
  rw [Int.toNat_natCast, e0]
  refine Ev.pos (by simp [hlen]; omega) (Ev.grd (by simp [hlen]; omega) (Ev.grd (by simp [hlen]; omega) (Ev.grd (by simp [hlen]; omega) ?_)))
  cases hb : k.testBit p with
  | false =>
   rw [show IntKind.wrap .u8 (1 - ((false.toNat : Nat) : Int)) = ((true.toNat : Nat) : Int) from rfl, bl_set, bl_rd (by omega)]
   refine Ev.pos (by simp) ?_
   rw [bl_ext (g := (k + 1).testBit) (fun i hi => by rw [succ_bit hl hb]; by_cases e : i = p <;> by_cases e' : i < p <;> simp_all), from_ev h1 h2]
   exact hR.shift
  | true =>
   rw [show IntKind.wrap .u8 (1 - ((true.toNat : Nat) : Int)) = ((false.toNat : Nat) : Int) from rfl, bl_set, bl_rd (by omega)]
   refine Ev.neg (by simp) ?_
   match d, hd with
   | 0, hd =>
    have : p = q := by omega
    rw [this, hz] at hb; cases hb
   | d + 1, hd =>
    rw [bl_ext (g := fun i => if i < p + 1 then false else k.testBit i) (fun i hi => by
     rcases Nat.lt_trichotomy i p with e | e | e
     ·simp only [show i ≠ p from by omega, if_false, e, if_true, show i < p + 1 from by omega]
     ·simp only [e, if_true, show p < p + 1 from by omega]
     ·simp only [show i ≠ p from by omega, if_false, show ¬ i < p from by omega, show ¬ i < p + 1 from by omega])]
    rw [show IntKind.wrap .i64 ((p : Int) + 1) = ((p + 1 : Nat) : Int) from wrap64 (by omega) (by omega)]
    exact nextS_lp h1 h2 hq hz d (p + 1) (by omega) (fun i hi => by
     by_cases e : i = p
     ·rw [e]; exact hb
     ·exact hl i (by omega)) (fun n => Kx (n + 1)) (fun n => R (n + 1)) hR.shift
theorem nextS_wp {w k : Nat} (h1 : 1 <= w) (h2 : w <= 4096) (hk : k + 1 < 2 ^ min w 63) (R : Nat -> Int -> List Int -> Bool -> Prop) (hR : Ev fun n => R n w (W (wkN w (k + 1))) true) :
  Ev (fun n => Z42.c n w (W (wkN w k)) (R n)) := by
 have hok := wkN_ok h1 h2 (k := k) (by omega)
 obtain ⟨i, hi, hb⟩ := zero_bit hk
 refine Ev.succ ?_
 simp only [Z42.c, Z42.w]
 rw [specOk_ev (wd_W hok.words), hok.bits]
 refine Ev.neg (by simp) ?_
 rw [list_ev hok, bl_ext (g := fun i => if i < 0 then false else k.testBit i) (fun j hj => by
  rw [wkN_pk h1 h2 (by omega), pk_bit]; simp [hj])]
 exact nextS_lp h1 h2 (q := i) (by omega) hb i 0 (by omega) (fun i hi => by omega) _ (fun n y41 y42 y43 => R (n + 1) y43 y42 y41) (by rw [<- wkN_pk h1 h2 (by omega)]; exact hR.shift)
theorem bitsOfS_lp {w k : Nat} (hw : w <= 4096) {x18 : List Int} {x19 : Int} (hk : k < 9223372036854775808) : ∀ (m i : Nat), i + m = w -> ∀ Kx : Nat -> Int -> List Int -> List Int -> Int -> Prop,
  Ev (fun n => Kx n ((k / 2 ^ w : Nat) : Int) (bl w k.testBit) x18 x19) -> Ev (fun n => Z37.l5 n w x18 x19 ((k / 2 ^ i : Nat) : Int) i (bl i k.testBit) (Kx n))
 | 0, i, h, Kx, hx => by
  have : i = w := by omega
  subst this
  refine Ev.succ ?_
  simp only [Z37.l5, Z37.l5.b]
  exact Ev.neg (by simp) hx.shift
 | m + 1, i, h, Kx, hx => by
  obtain ⟨x, ex⟩ : ∃ x, x = k / 2 ^ i := ⟨_, rfl⟩
  have hle : x <= k := by rw [ex]; exact Nat.div_le_self _ _
  have ex2 : k / 2 ^ (i + 1) = x / 2 := by rw [ex, Nat.pow_succ, <- Nat.div_div_eq_div_mul]
  have e0 : (bl i k.testBit) ++ [IntKind.wrap .u8 (Int.tmod (x : Int) 2)] = bl (i + 1) k.testBit := by
   rw [bl, bl, List.range_succ, List.map_append, List.map_singleton, tmodP (by omega)]
   congr 2
   rw [Nat.testBit_eq_decide_div_mod_eq, <- ex]
   rcases Nat.mod_two_eq_zero_or_one x with e | e
   ·rw [e, show (x : Int) % 2 = 0 from by omega]; rfl
   ·rw [e, show (x : Int) % 2 = 1 from by omega]; rfl
  have e1 : IntKind.wrap .i64 (Int.tdiv (x : Int) 2) = ((k / 2 ^ (i + 1) : Nat) : Int) := by
   rw [ex2, tdivP (by omega), wrap64 (by omega) (by omega)]; omega
  rw [<- ex]
  refine Ev.succ ?_
  simp only [Z37.l5, Z37.l5.b, e0, e1]
  rw [show IntKind.wrap .i64 ((i : Int) + 1) = ((i + 1 : Nat) : Int) from wrap64 (by omega) (by omega)]
  exact Ev.pos (by simp; omega) (Ev.grd (by simp [bl_len]; omega) (bitsOfS_lp hw hk m (i + 1) (by omega) (fun n => Kx (n + 1)) hx.shift))
theorem bitsOfS_wp {w k : Nat} (h1 : 1 <= w) (h2 : w <= 4096) (hk : k < 2 ^ min w 63) (R : Nat -> Int -> List Int -> Bool -> Prop) (hR : Ev fun n => R n w (W (wkN w k)) true) :
  Ev (fun n => Z37.c n w k (R n)) := by
 have hs := small63 hk
 have hi : decide ((1 : Int) <= w /\ (w : Int) <= 4096) = true := decide_eq_true (by omega)
 have lp := fun Kx hx => bitsOfS_lp (w := w) (k := k) h2 (x18 := []) (x19 := 0) (by omega) w 0 (by omega) Kx hx
 rw [bl_zero] at lp
 have hz : k / 2 ^ w = 0 := Nat.div_eq_of_lt (Nat.lt_of_lt_of_le hk (Nat.pow_le_pow_right (by decide) (Nat.min_le_left _ _)))
 refine Ev.succ ?_
 simp only [Z37.c, Z37.w, Z37.j0]
 rw [l1In_ev, hi]
 refine Ev.pos (by simp) (Ev.neg (by simp) ?_)
 rw [show k / 2 ^ 0 = k from by simp] at lp
 refine lp _ ?_
 rw [hz]
 refine Ev.neg (by simp) ?_
 rw [from_ev h1 h2, <- wkN_pk h1 h2 hk]
 exact hR.shift
end Go.Vsi
end

section
set_option linter.unusedVariables false
set_option linter.unusedSimpArgs false
set_option synthInstance.maxSize 4096
namespace Go.Vsi
def ff (l : List tBar) (has : List tBits) (v w : Int) : Nat -> Nat -> Nat
 | 0, i => i
 | m + 1, i => if freeP l has v (wk w i) = true then i else ff l has v w m (i + 1)
def cr (v : Int) (l : List tBar) : Nat := (riv v l).1.length + (riv v l).2.length
def fillP (l : List tBar) : List Int -> Int -> List tBits -> List tBits
 | [], _, has => has
 | y :: ys, i, has => if (rd has i.toNat).1 > 0 then fillP l ys (i + 1) has else fillP l ys (i + 1) (has.set i.toNat (wk y (ff l has i y (cr i l) 0)))
def colourP (s : Bool) (w : List Int) (l : List tBar) (most : Int) : List tBits × Int × Int :=
 if graphOk w l = true /\ 0 <= most /\ most <= 20000 then
  (let r := searchP s w l most (narrowP l w 0) (List.replicate w.length (0, [])) 0
   if r.1 = 2 then ([], r.2.2, 2) else if r.1 = 3 then ([], most, 3) else (fillP l w 0 r.2.1, r.2.2, 0))
 else ([], -1, 1)
theorem fold_sum {v : Int} : ∀ {l : List tBar} {q : trivals}, (l.foldl (nodeStep v) q).1.length + (l.foldl (nodeStep v) q).2.length <= q.1.length + q.2.length + l.length
 | [], q => by simp
 | b :: l, q => by
  rw [List.foldl_cons]
  have ih := fold_sum (v := v) (l := l) (q := nodeStep v q b)
  have : (nodeStep v q b).1.length + (nodeStep v q b).2.length <= q.1.length + q.2.length + 1 := by
   unfold nodeStep
   have a1 := addN_len (x := b.2.1) (l := q.1)
   have a2 := addN_len (x := b.1) (l := q.1)
   have a3 := addN_len (x := b.2.2) (l := q.2)
   (repeat' split) <;> (try simp only []) <;> omega
  rw [List.length_cons]; omega
theorem cr_le {v : Int} {l : List tBar} : cr v l <= l.length := by
 have := fold_sum (v := v) (l := l) (q := ([], []))
 simpa [cr, riv] using this
theorem nodup_le {α : Type} [DecidableEq α] : ∀ {a b : List α}, a.Nodup -> (∀ x ∈ a, x ∈ b) -> a.length <= b.length
 | [], b, _, _ => by simp
 | x :: a, b, hn, h => by
  rw [List.nodup_cons] at hn
  have hx := h x List.mem_cons_self
  have ih := nodup_le (a := a) (b := b.erase x) hn.2 fun y hy => by
   have hne : y ≠ x := by rintro rfl; exact hn.1 hy
   exact (List.mem_erase_of_ne hne).2 (h y (List.mem_cons_of_mem _ hy))
  rw [List.length_erase_of_mem hx] at ih
  have := List.length_pos_of_mem hx
  rw [List.length_cons]; omega
theorem wk_inj {w i j : Nat} (h1 : 1 <= w) (h : wk w i = wk w j) : i = j := by
 have e := congrArg (fun b : tBits => rd b.2 0) h
 simp only [wk_N, W_rd] at e
 have g : ∀ k, (wkN w k).getD 0 0 = k := fun k => by
  rw [wkN, List.getD_eq_getElem?_getD, List.getElem?_set_self (by simp; omega)]; rfl
 rw [g, g] at e; omega
theorem free_one {l : List tBar} {has : List tBits} {v : Int} {w : Nat} (h1 : 1 <= w) (hv : 0 <= v) (hl : ∀ y ∈ l, -1 <= y.2.1) : ∃ j, j <= cr v l /\ freeP l has v (wk w j) = true := by
 refine Classical.byContradiction fun hn => ?_
 have hno : ∀ j : Nat, j <= cr v l -> freeP l has v (wk w j) = false := fun j hj => by
  cases hb : freeP l has v (wk w j) with
  | false => rfl
  | true => exact absurd ⟨j, hj, hb⟩ hn
 have hsub : ∀ x ∈ (List.range (cr v l + 1)).map (fun j : Nat => wk w j), x ∈ (riv v l).2 ++ (riv v l).1.map (fun y => rd has y.toNat) := fun x hx => by
  obtain ⟨j, hj, rfl⟩ := List.mem_map.1 hx
  rw [List.mem_range] at hj
  have hf := hno j (by omega)
  rw [free_riv (by simp [wk]; omega) hl hv, Bool.and_eq_false_iff, Bool.not_eq_false', Bool.not_eq_false', decide_eq_true_eq, List.any_eq_true] at hf
  rw [List.mem_append, List.mem_map]
  rcases hf with hf | ⟨y, hy, e⟩
  ·exact .inl hf
  ·exact .inr ⟨y, hy, of_decide_eq_true e⟩
 have hnd : ((List.range (cr v l + 1)).map (fun j : Nat => wk w j)).Nodup := by
  rw [List.Nodup, List.pairwise_map]
  refine List.Pairwise.imp ?_ (List.nodup_range (n := cr v l + 1))
  intro a b hab e; exact hab (wk_inj h1 e)
 have := nodup_le hnd hsub
 simp only [List.length_map, List.length_range, List.length_append, cr] at this
 omega
theorem ff_free {l : List tBar} {has : List tBits} {v w : Int} : ∀ {m i : Nat}, (∃ j, j <= m /\ freeP l has v (wk w ((i + j : Nat) : Int)) = true) -> freeP l has v (wk w ((ff l has v w m i : Nat) : Int)) = true /\ ff l has v w m i <= i + m
 | 0, i, ⟨j, hj, h⟩ => by
  obtain rfl : j = 0 := by omega
  exact ⟨h, Nat.le_refl _⟩
 | m + 1, i, ⟨j, hj, h⟩ => by
  unfold ff
  by_cases hf : freeP l has v (wk w i) = true
  ·rw [if_pos hf]; exact ⟨hf, by omega⟩
  ·rw [if_neg hf]
   match j, hj, h with
   | 0, hj, h => exact absurd h hf
   | j + 1, hj, h =>
    have := ff_free (l := l) (has := has) (v := v) (w := w) (m := m) (i := i + 1) ⟨j, by omega, by rw [show i + 1 + j = i + (j + 1) from by omega]; exact h⟩
    exact ⟨this.1, by omega⟩
theorem mem_narrow {l : List tBar} {v : Int} : ∀ {ys : List Int} {i : Int}, v ∈ narrowP l ys i ↔ i <= v /\ v < i + ys.length /\ rd ys (v - i).toNat <= 10 /\ (2 : Int) ^ (rd ys (v - i).toNat).toNat <= (cr v l : Int)
 | [], i => by simp [narrowP]; omega
 | y :: ys, i => by
  unfold narrowP
  have e : ∀ {P : Prop}, (P ↔ v = i /\ (y <= 10 /\ (2 : Int) ^ y.toNat <= (cr i l : Int)) \/ i + 1 <= v /\ v < i + 1 + ys.length /\ rd ys (v - (i + 1)).toNat <= 10 /\ (2 : Int) ^ (rd ys (v - (i + 1)).toNat).toNat <= (cr v l : Int)) ->
    (P ↔ i <= v /\ v < i + (y :: ys).length /\ rd (y :: ys) (v - i).toNat <= 10 /\ (2 : Int) ^ (rd (y :: ys) (v - i).toNat).toNat <= (cr v l : Int)) := fun {P} h => by
   rw [h]
   constructor
   ·rintro (⟨rfl, h1, h2⟩ | ⟨h0, h1, h2, h3⟩)
    ·have e0 : rd (y :: ys) (v - v).toNat = y := by simp [rd]
     rw [e0]; exact ⟨Int.le_refl _, by simp; omega, h1, h2⟩
    ·have e1 : rd (y :: ys) (v - i).toNat = rd ys (v - (i + 1)).toNat := by
      rw [show (v - i).toNat = (v - (i + 1)).toNat + 1 from by omega]; rfl
     rw [e1]; exact ⟨by omega, by simp; omega, h2, h3⟩
   ·rintro ⟨h0, h1, h2, h3⟩
    by_cases hv : v = i
    ·subst hv
     have e0 : rd (y :: ys) (v - v).toNat = y := by simp [rd]
     rw [e0] at h2 h3; exact .inl ⟨rfl, h2, h3⟩
    ·have e1 : rd (y :: ys) (v - i).toNat = rd ys (v - (i + 1)).toNat := by
      rw [show (v - i).toNat = (v - (i + 1)).toNat + 1 from by omega]; rfl
     rw [e1] at h2 h3
     rw [List.length_cons] at h1
     exact .inr ⟨by omega, by omega, h2, h3⟩
  apply e
  have ec : ((riv i l).1.length : Int) + (riv i l).2.length = (cr i l : Int) := by rw [cr]; omega
  rw [ec]
  by_cases hc : y <= 10 /\ (2 : Int) ^ y.toNat <= (cr i l : Int)
  ·rw [if_pos hc, List.mem_cons, mem_narrow]; simp only [hc, and_self, and_true]
  ·rw [if_neg hc, mem_narrow]; simp only [hc, and_false, false_or]
theorem narrow_nodup {l : List tBar} : ∀ {ys : List Int} {i : Int}, (narrowP l ys i).Nodup
 | [], i => List.nodup_nil
 | y :: ys, i => by
  unfold narrowP
  split
  ·rw [List.nodup_cons]
   refine ⟨fun h => ?_, narrow_nodup⟩
   have := (mem_narrow.1 h).1; omega
  ·exact narrow_nodup
theorem narrow_len {l : List tBar} : ∀ {ys : List Int} {i : Int}, (narrowP l ys i).length <= ys.length
 | [], i => Nat.le_refl _
 | y :: ys, i => by
  have := narrow_len (l := l) (ys := ys) (i := i + 1)
  unfold narrowP
  split <;> simp only [List.length_cons] <;> omega
end Go.Vsi
end

section
set_option linter.unusedVariables false
set_option linter.unusedSimpArgs false
set_option synthInstance.maxSize 4096
namespace Go.Vsi
def Gives (nar : List Int) (has : List tBits) (r : Int × List tBits × Int) : Prop :=
 (∀ i : Nat, (∀ v ∈ nar, v.toNat ≠ i) -> rd r.2.1 i = rd has i) /\ (r.1 = 0 -> ∀ v ∈ nar, (rd r.2.1 v.toNat).1 > 0)
theorem rd_set_ne {α : Type} [Inhabited α] {l : List α} {i j : Nat} {x : α} (h : j ≠ i) : rd (l.set i x) j = rd l j := by
 simp only [rd, List.getD_eq_getElem?_getD, List.getElem?_set]
 rw [if_neg (fun e => h e.symm)]
theorem tryP_gives {w : List Int} {l : List tBar} {most v wd : Int} {nar : List Int} {rec : List tBits -> Int -> Int × List tBits × Int} {s : Bool} (hwd : 1 <= wd) (hwd' : wd <= 4096) (hv : v.toNat < w.length) (hnv : ∀ u ∈ nar, u.toNat ≠ v.toNat)
  (hk : ∀ has vis, Has w has -> 0 <= vis -> vis <= most -> Kept w most (rec has vis)) (hr : ∀ has vis, Has w has -> 0 <= vis -> vis <= most -> Gives nar has (rec has vis)) :
  ∀ (m : Nat) (k : Int) (has : List tBits) (vis : Int), Has w has -> 0 <= vis -> vis <= most -> Gives (v :: nar) has (tryP rec s l v wd m k has vis)
 | 0, k, has, vis, h1, h2, h3 => ⟨fun _ _ => rfl, fun h => by simp [tryP] at h⟩
 | m + 1, k, has, vis, h1, h2, h3 => by
  unfold tryP
  by_cases hf : freeP l has v (wk wd k) = true
  ·rw [if_pos hf]
   have hs : Has w (has.set v.toNat (wk wd k)) := h1.set (wk_len (by omega) hwd')
   obtain ⟨g1, g2, g3, g4⟩ := hk (has.set v.toNat (wk wd k)) vis hs h2 h3
   obtain ⟨k1, k2⟩ := hr (has.set v.toNat (wk wd k)) vis hs h2 h3
   generalize rec (has.set v.toNat (wk wd k)) vis = r at g1 g2 g3 g4 k1 k2
   have keep : ∀ i : Nat, (∀ u ∈ v :: nar, u.toNat ≠ i) -> rd r.2.1 i = rd has i := fun i hi => by
    rw [k1 i (fun u hu => hi u (List.mem_cons_of_mem _ hu)), rd_set_ne (fun e => hi v List.mem_cons_self e.symm)]
   by_cases c0 : r.1 = 0
   ·simp only [c0, if_true]
    refine ⟨keep, fun _ u hu => ?_⟩
    rcases List.mem_cons.1 hu with rfl | hu
    ·rw [k1 _ hnv, rd_set (by rw [h1.1]; exact hv)]; show wd > 0; omega
    ·exact k2 c0 u hu
   by_cases c2 : r.1 = 2
   ·simp only [c0, c2, if_true, if_false, show ¬ (2 : Int) = 0 from by decide]
    obtain ⟨j1, j2⟩ := tryP_gives hwd hwd' hv hnv hk hr (s := s) (l := l) m (k + 1) (r.2.1.set v.toNat (0, [])) r.2.2 (g1.set (by simp)) g2 g3
    exact ⟨fun i hi => by rw [j1 i hi, rd_set_ne (fun e => hi v List.mem_cons_self e.symm), keep i hi], j2⟩
   ·simp only [c0, c2, if_false]
    refine ⟨fun i hi => ?_, fun h => absurd h c0⟩
    simp only []
    split
    ·rw [rd_set_ne (fun e => hi v List.mem_cons_self e.symm), keep i hi]
    ·exact keep i hi
  ·rw [if_neg hf]; exact tryP_gives hwd hwd' hv hnv hk hr m (k + 1) has vis h1 h2 h3
theorem searchP_gives {w : List Int} {l : List tBar} {most : Int} {s : Bool} (hW : ∀ x ∈ w, 1 <= x /\ x <= 4096) : ∀ (nar : List Int) (has : List tBits) (vis : Int), nar.Nodup -> (∀ v ∈ nar, 0 <= v /\ v < (w.length : Int)) -> Has w has -> 0 <= vis -> vis <= most -> Gives nar has (searchP s w l most nar has vis)
 | [], has, vis, _, _, h1, h2, h3 => ⟨fun _ _ => rfl, fun _ v hv => by cases hv⟩
 | v :: nar, has, vis, hn, hi, h1, h2, h3 => by
  rw [List.nodup_cons] at hn
  have hv := hi v List.mem_cons_self
  unfold searchP
  split
  ·exact ⟨fun _ _ => rfl, fun h => by simp at h⟩
  ·rename_i hm
   have hwd := hW _ (rd_mem (l := w) (i := v.toNat) (by omega))
   exact tryP_gives hwd.1 hwd.2 (by omega) (fun u hu e => by
    have := hi u (List.mem_cons_of_mem _ hu)
    have e' : u = v := by omega
    rw [e'] at hu; exact hn.1 hu) (fun has vis => searchP_kept (rdW hW) nar has vis) (fun has vis => searchP_gives hW nar has vis hn.2 (fun u hu => hi u (List.mem_cons_of_mem _ hu))) _ 0 has (vis + 1) h1 (by omega) (by omega)
section
variable {w : List Int} {l : List tBar} {nar : List Int} {most : Int}
theorem l12_wp (hG : GOk w l nar most) {has : List tBits} (hh : Has w has) {vis v x59 x60 : Int} {x58 : List Int} (hv : 0 <= v /\ v < (w.length : Int)) {y : Nat} (h1 : 1 <= y) (h2 : y <= 4096) :
  ∀ (m i : Nat), (∃ j, j <= m /\ freeP l has v (wk y ((i + j : Nat) : Int)) = true) -> i + m < 2 ^ min y 63 ->
  ∀ Kx : Nat -> Int -> List Int -> Int -> Int -> List Int -> List trivals -> List Int -> List tBits -> Int -> List Int -> List tBar -> Int -> Int -> Prop,
  Ev (fun n => Kx n v x58 x59 x60 (W (wkN y (ff l has v y m i))) (rivGo l (List.replicate w.length ([], []))) nar has y w l vis most) ->
  Ev (fun n => Z12.l12 n v x58 x59 x60 (rivGo l (List.replicate w.length ([], []))) nar has w l vis most (W (wkN y i)) y (Kx n))
 | m, i, ⟨j, hj, hf⟩, hb, Kx, hx => by
  have pf := fun R => pfree_ev hG.hw hG.hl hG.hg hh (nar := nar) (vis := vis) (most := most) hv.1 hv.2 (b := ((y : Int), W (wkN y i))) (by show (y : Int) ≠ 0; omega) (by rw [W_len, wkN_len]; omega) R
  simp only [<- wk_N] at pf
  refine Ev.succ ?_
  simp only [Z12.l12, Z12.l12.b]
  rw [pf]
  by_cases hfi : freeP l has v (wk y i) = true
  ·rw [hfi]
   refine Ev.neg (by simp) ?_
   have : ff l has v y m i = i := by
    cases m with
    | zero => rfl
    | succ m => rw [ff, if_pos hfi]
   rw [this] at hx
   exact hx.shift
  ·refine Ev.pos (by simpa using hfi) ?_
   match m, j, hj, hf with
   | m, 0, hj, hf => exact absurd hf hfi
   | 0, j + 1, hj, hf => omega
   | m + 1, j + 1, hj, hf =>
    refine nextI_wp h1 h2 (by omega) _ ?_
    rw [ff, if_neg hfi] at hx
    exact l12_wp hG hh hv h1 h2 m (i + 1) ⟨j, by omega, by rw [show i + 1 + j = i + (j + 1) from by omega]; exact hf⟩ (by omega) (fun n => Kx (n + 1)) hx.shift
def NarOk (w : List Int) (l : List tBar) (has : List tBits) : Prop := ∀ v : Int, 0 <= v -> v < (w.length : Int) -> rd w v.toNat <= 10 -> (2 : Int) ^ (rd w v.toNat).toNat <= (cr v l : Int) -> (rd has v.toNat).1 > 0
theorem NarOk.set {has : List tBits} {i : Nat} {b : tBits} (h : NarOk w l has) (hb : b.1 > 0) (hi : i < has.length) : NarOk w l (has.set i b) := fun v h0 h1 h2 h3 => by
 by_cases e : v.toNat = i
 ·rw [e, rd_set hi]; exact hb
 ·rw [rd_set_ne e]; exact h v h0 h1 h2 h3
theorem room (hl : l.length <= 1000) {v y : Int} (h1 : 1 <= y) (h : ¬ (y <= 10 /\ (2 : Int) ^ y.toNat <= (cr v l : Int))) : cr v l < 2 ^ min y.toNat 63 := by
 have hc := cr_le (v := v) (l := l)
 refine small_lt (by omega) fun hy => ?_
 have : ¬ (2 : Int) ^ y.toNat <= (cr v l : Int) := fun e => h ⟨by omega, e⟩
 have e : ((2 ^ y.toNat : Nat) : Int) = (2 : Int) ^ y.toNat := by norm_cast
 omega
theorem l8_wp (hG : GOk w l nar most) {vis : Int} : ∀ (ys : List Int) (x : Int) (has : List tBits), w.drop x.toNat = ys -> 0 <= x -> Has w has -> NarOk w l has ->
  ∀ Kx : Nat -> List trivals -> List Int -> List tBits -> List Int -> List tBar -> Int -> Int -> Prop,
  Ev (fun n => Kx n (rivGo l (List.replicate w.length ([], []))) nar (fillP l ys x has) w l vis most) ->
  Ev (fun n => Z12.l8 n w w.length x (rivGo l (List.replicate w.length ([], []))) nar has w l vis most (Kx n))
 | [], x, has, h, h0, hh, hN, Kx, hx => by
  have := drop_nil h h0
  refine Ev.succ ?_
  simp only [Z12.l8, Z12.l8.b]
  exact Ev.neg (by simp; omega) hx.shift
 | y :: ys, x, has, h, h0, hh, hN, Kx, hx => by
  obtain ⟨e1, e2, e3⟩ := drop_cons h h0
  have hw := hG.hw
  have hlen := hh.1
  have hy := hG.hW y (e2 ▸ rd_mem (by omega))
  refine Ev.succ ?_
  simp only [Z12.l8, Z12.l8.b]
  rw [wrap64 (x := x + 1) (by omega) (by omega)]
  refine Ev.pos (by simp; omega) (Ev.grd (by simp; omega) (Ev.grd (by simp; omega) ?_))
  unfold fillP at hx
  by_cases hp : (rd has x.toNat).1 > 0
  ·rw [if_pos hp] at hx
   exact Ev.pos (by simpa using hp) (l8_wp hG ys (x + 1) has e3 (by omega) hh hN (fun n => Kx (n + 1)) hx.shift)
  rw [if_neg hp] at hx
  refine Ev.neg (by simpa using hp) ?_
  rw [e2, zero_ev (by omega) (by omega)]
  obtain ⟨u, rfl⟩ : ∃ u : Nat, y = u := ⟨y.toNat, by omega⟩
  have e0 : W (List.replicate (((u : Int) + 63) / 64).toNat 0) = W (wkN u 0) := by
   rw [wkN, show (((u : Int) + 63) / 64).toNat = (u + 63) / 64 from by omega]
   congr 1
   apply List.ext_getElem (by simp)
   intro i g1 g2
   rw [List.getElem_set]; split <;> simp
  rw [e0]
  have hroom := room hG.hl (v := x) hy.1 (fun hn => hp (hN x h0 e1 (by rw [e2]; exact hn.1) (by rw [e2]; exact hn.2)))
  rw [Int.toNat_natCast] at hroom
  have hone := free_one (has := has) (l := l) (v := x) (w := u) (by omega) h0 (fun b hb => (hG.hg b hb).2.2.1)
  refine l12_wp hG hh ⟨h0, e1⟩ (by omega) (by omega) (cr x l) 0 (by simpa using hone) (by omega) (fun n y202 y203 y204 y205 y206 y207 y208 y209 y210 y211 y212 y213 y214 => _) ?_
  refine Ev.grd (by simp; omega) ?_
  rw [wrap64 (x := x + 1) (by omega) (by omega), <- wk_N]
  exact l8_wp hG ys (x + 1) _ e3 (by omega) (hh.set (wk_len (by omega) (by omega))) (hN.set (by show (u : Int) > 0; omega) (by omega)) (fun n => Kx (n + 1)) hx.shift
end
theorem gok_of {w : List Int} {l : List tBar} {most : Int} (hy : ∀ b ∈ l, b.2.2.2.length <= 1099511627776) (h : graphOk w l = true) (hm : 0 <= most /\ most <= 20000) : GOk w l (narrowP l w 0) most where
 hw := (graphOk_le h).1
 hl := (graphOk_le h).2
 hg := inG_of h hy
 hW := graphOk_w h
 hn := fun v hv => by
  have := mem_narrow.1 hv
  rw [Int.sub_zero] at this
  exact ⟨this.1, by omega, this.2.2.1⟩
 hm := hm
 hln := by have := narrow_len (l := l) (ys := w) (i := 0); have := (graphOk_le h).1; omega
theorem has_zero {w : List Int} : Has w (List.replicate w.length (0, [])) := ⟨by simp, fun z hz => by rw [List.eq_of_mem_replicate hz]; simp⟩
theorem colourI_wp {w : List Int} {l : List tBar} {most : Int} (hy : ∀ b ∈ l, b.2.2.2.length <= 1099511627776) (R : Nat -> List tBits -> Int -> Int -> Prop)
  (hR : Ev fun n => R n (colourP false w l most).1 (colourP false w l most).2.1 (colourP false w l most).2.2) : Ev (fun n => Z3.c n w l most (R n)) := by
 unfold colourP at hR
 refine Ev.succ ?_
 simp only [Z3.c, Z3.w]
 rw [graphOk_ev]
 by_cases hg : graphOk w l = true
 rotate_left
 ·rw [if_neg (fun h => hg h.1)] at hR
  exact Ev.neg (by simpa using hg) hR.shift
 refine Ev.pos (by simpa using hg) ?_
 rw [inside_ev]
 by_cases hm : 0 <= most /\ most <= 20000
 rotate_left
 ·rw [if_neg (fun h => hm h.2)] at hR
  exact Ev.pos (by simp; omega) hR.shift
 rw [if_pos ⟨hg, hm⟩] at hR
 refine Ev.neg (by simp; omega) ?_
 have hG := gok_of hy hg hm
 refine Ev.succ ?_
 simp only [Z12.c, Z12.w]
 rw [np_ev hG.hw hG.hl hG.hg hG.hW]
 refine search_wp hG (narrowP l w 0) 0 (by simp) (by omega) (by omega) _ 0 has_zero (by omega) hm.1 _ ?_
 have hgv := searchP_gives (s := false) (l := l) (most := most) hG.hW (narrowP l w 0) (List.replicate w.length (0, [])) 0 narrow_nodup (fun v hv => ⟨(hG.hn v hv).1, (hG.hn v hv).2.1⟩) has_zero (by omega) hm.1
 have hkp := searchP_kept (s := false) (l := l) (most := most) (rdW hG.hW) (narrowP l w 0) (List.replicate w.length (0, [])) 0 has_zero (by omega) hm.1
 generalize searchP false w l most (narrowP l w 0) (List.replicate w.length (0, [])) 0 = r at hR hgv hkp
 obtain ⟨k1, k2, k3, k4⟩ := hkp
 by_cases c2 : r.1 = 2
 ·simp only [c2, if_true] at hR
  exact Ev.pos (by simpa using c2) hR.shift.shift
 by_cases c3 : r.1 = 3
 ·simp only [c2, c3, if_true, if_false, show ¬ (3 : Int) = 2 from by decide] at hR
  exact Ev.neg (by simpa using c2) (Ev.pos (by simpa using c3) hR.shift.shift)
 simp only [c2, c3, if_false] at hR
 have c0 : r.1 = 0 := by omega
 refine Ev.neg (by simpa using c2) (Ev.neg (by simpa using c3) ?_)
 exact l8_wp hG w 0 r.2.1 (by simp) (by omega) k1 (fun v h0 h1 h2 h3 => hgv.2 c0 v (mem_narrow.2 ⟨h0, by omega, by rw [Int.sub_zero]; exact h2, by rw [Int.sub_zero]; exact h3⟩)) (fun n y222 y223 y224 y225 y226 y227 y228 => R (n + 1 + 1) y224 y227 0) hR.shift.shift
end Go.Vsi
end

section
set_option linter.unusedVariables false
set_option linter.unusedSimpArgs false
set_option synthInstance.maxSize 4096
namespace Go.Vsi
theorem pair_eq {a : Int} {l : List Int} {b : tBits} : (a = b.1 /\ l = b.2) ↔ ((a, l) : tBits) = b := by
 constructor
 ·rintro ⟨h1, h2⟩; exact Prod.ext h1 h2
 ·rintro rfl; exact ⟨rfl, rfl⟩
theorem freeS_lp {w : List Int} {l : List tBar} {has : List tBits} (hl : l.length <= 1000) (hh : ∀ z ∈ has, z.2.length <= 64) {v : Int} {b : tBits} (hb : b.2.length <= 64) :
  ∀ (ys : List tBar) (x : Int), l.drop x.toNat = ys -> 0 <= x -> (∀ y ∈ ys, InG has.length y) -> ∀ (Kx : Nat -> Prop) (Kr : Nat -> Bool -> Prop),
  ((ys.any fun y => decide (forb has v y = b)) = false -> Ev Kx) -> ((ys.any fun y => decide (forb has v y = b)) = true -> Ev (fun n => Kr n false)) ->
  Ev (fun n => Z44.l2 n has v w l b.1 b.2 x (Kx n) (Kr n))
 | [], x, h, h0, hg, Kx, Kr, k1, k2 => by
  have := drop_nil h h0
  refine Ev.succ ?_
  simp only [Z44.l2, Z44.l2.b]
  exact Ev.neg (by simp; omega) (k1 rfl).shift
 | y :: ys, x, h, h0, hg, Kx, Kr, k1, k2 => by
  obtain ⟨e1, e2, e3⟩ := drop_cons h h0
  obtain ⟨g1, g2, g3, g4, g5, g6⟩ := hg y List.mem_cons_self
  have hrd : ∀ i : Nat, i < has.length -> (rd has i).2.length <= 1099511627776 := fun i hi => by have := hh _ (rd_mem hi); omega
  have ih := freeS_lp (w := w) hl hh hb ys (x + 1) e3 (by omega) (fun y hy => hg y (List.mem_cons_of_mem _ hy)) (fun n => Kx (n + 1)) (fun n => Kr (n + 1)) (v := v) (b := b)
  simp only [List.any_cons] at k1 k2
  have fin : ∀ z : tBits, forb has v y = z -> z.2.length <= 1099511627776 -> Ev (fun n => Z62.c n z.1 z.2 b.1 b.2 (fun r70 => if r70 = true then Kr (n + 1) false else Z44.l2 n has v w l b.1 b.2 (x + 1) (Kx (n + 1)) (Kr (n + 1)))) := fun z hz hzl => by
   rw [sSame_ev hzl]
   rw [hz] at k1 k2
   by_cases hc : z = b
   ·refine Ev.pos (by rw [decide_eq_true_eq]; exact pair_eq.2 hc) (k2 (by simp [hc])).shift
   ·have hf : decide (z = b) = false := by simpa using hc
    rw [hf, Bool.false_or] at k1 k2
    refine Ev.neg (by rw [decide_eq_true_eq]; exact fun e => hc (pair_eq.1 e)) (ih (fun e => (k1 e).shift) (fun e => (k2 e).shift))
  refine Ev.succ ?_
  simp only [Z44.l2, Z44.l2.b, Z44.j7]
  rw [e2, wrap64 (x := x + 1) (by omega) (by omega)]
  refine Ev.pos (by simp; omega) (Ev.grd (by simp; omega) ?_)
  by_cases c1 : y.1 = v
  ·refine Ev.pos (by simpa using c1) ?_
   by_cases c2 : y.2.1 < 0
   ·exact Ev.pos (by simpa using c2) (fin y.2.2 (by rw [forb, if_pos ⟨c1, c2⟩]) g6)
   ·refine Ev.neg (by simpa using c2) (Ev.pos (by simpa using c1) (Ev.grd (by simp; omega) ?_))
    exact fin (rd has y.2.1.toNat) (by rw [forb, if_neg (fun h => c2 h.2), if_pos c1]) (hrd _ (by omega))
  ·refine Ev.neg (by simpa using c1) (Ev.neg (by simp) (Ev.neg (by simpa using c1) ?_))
   by_cases c3 : y.2.1 = v
   ·refine Ev.pos (by simpa using c3) (Ev.grd (by simp; omega) ?_)
    exact fin (rd has y.1.toNat) (by rw [forb, if_neg (fun h => c1 h.1), if_neg c1, if_pos c3]) (hrd _ (by omega))
   ·exact Ev.neg (by simpa using c3) (fin (0, []) (by rw [forb, if_neg (fun h => c1 h.1), if_neg c1, if_neg c3]) (by simp))
theorem freeS_wp {w : List Int} {l : List tBar} {has : List tBits} (hl : l.length <= 1000) (hg : ∀ b ∈ l, InG w.length b) (hh : Has w has) {v : Int} {b : tBits} (hb : b.2.length <= 64) (R : Nat -> Bool -> Prop) (hR : Ev fun n => R n (freeP l has v b)) :
  Ev (fun n => Z44.c n w l has v b.1 b.2 (R n)) := by
 refine Ev.succ ?_
 simp only [Z44.c, Z44.w]
 refine freeS_lp hl hh.2 hb l 0 (by simp) (by omega) (by rw [hh.1]; exact hg) (fun n => R (n + 1) true) (fun n => R (n + 1)) (fun e => ?_) (fun e => ?_)
 ·rw [freeP, e] at hR; exact hR.shift
 ·rw [freeP, e] at hR; exact hR.shift
section
variable {w : List Int} {l : List tBar} {nar : List Int} {most : Int}
theorem visitL {v wd k : Int} (hG : GOk w l nar most) (hv : 0 <= v /\ v < (w.length : Int)) (h1 : 1 <= wd) (h2 : wd <= 10) (hk : 0 <= k /\ k <= 1000) {rec : List tBits -> Int -> Int × List tBits × Int}
  (hrec : ∀ has vis, Has w has -> 0 <= vis -> vis <= most -> Kept w most (rec has vis))
  (ih : ∀ (has : List tBits) (vis : Int), Has w has -> 0 <= vis -> vis <= most -> ∀ R : Nat -> Bool -> List Int -> List tBar -> List tBits -> List Int -> Int -> Int -> Bool -> Prop,
   Ev (fun n => R n (decide ((rec has vis).1 = 0)) w l (rec has vis).2.1 nar (rec has vis).2.2 most (decide ((rec has vis).1 = 3))) ->
   Ev (fun n => Z45.c n w l has nar vis most false (k + 1) (R n))) :
  ∀ (m : Nat) (i : Nat), i + m = 2 ^ wd.toNat -> ∀ (has : List tBits) (vis : Int), Has w has -> 0 <= vis -> vis <= most ->
  ∀ (Kx : Nat -> List tBits -> List Int -> List Int -> List tBar -> Int -> Int -> Bool -> Prop) (Kr : Nat -> Bool -> List tBits -> List Int -> List Int -> List tBar -> Int -> Int -> Bool -> Prop),
  ((tryP rec true l v wd m i has vis).1 = 2 -> Ev (fun n => Kx n (tryP rec true l v wd m i has vis).2.1 nar w l (tryP rec true l v wd m i has vis).2.2 most false)) ->
  ((tryP rec true l v wd m i has vis).1 ≠ 2 -> Ev (fun n => Kr n (decide ((tryP rec true l v wd m i has vis).1 = 0)) (tryP rec true l v wd m i has vis).2.1 nar w l (tryP rec true l v wd m i has vis).2.2 most (decide ((tryP rec true l v wd m i has vis).1 = 3)))) ->
  Ev (fun n => Z45.l10 n k v wd i has nar w l vis most false (Kx n) (Kr n))
 | 0, i, h, has, vis, g1, g2, g3, Kx, Kr, hx, hr => by
  have hp := pow_le h1 h2
  have e : ((2 ^ wd.toNat : Nat) : Int) = (2 : Int) ^ wd.toNat := by norm_cast
  refine Ev.succ ?_
  simp only [Z45.l10_s, Z45.l10.b]
  rw [wrapU (x := wd) (by omega) (by omega), shl1 h1 h2]
  exact Ev.grd (by simp; omega) (Ev.neg (by simp; omega) (hx rfl).shift)
 | m + 1, i, h, has, vis, g1, g2, g3, Kx, Kr, hx, hr => by
  have hp := pow_le h1 h2
  have e : ((2 ^ wd.toNat : Nat) : Int) = (2 : Int) ^ wd.toNat := by norm_cast
  obtain ⟨u, rfl⟩ : ∃ u : Nat, wd = u := ⟨wd.toNat, by omega⟩
  rw [Int.toNat_natCast] at hp e h
  refine Ev.succ ?_
  simp only [Z45.l10_s, Z45.l10.b]
  rw [wrapU (x := (u : Int)) (by omega) (by omega), shl1 h1 h2]
  refine Ev.grd (by simp) (Ev.pos (by simp; omega) (bitsOfS_wp (by omega) (by omega) (by rw [Nat.min_eq_left (by omega)]; omega) _ ?_))
  have fr := fun R hR => freeS_wp hG.hl hG.hg g1 (v := v) (b := ((u : Int), W (wkN u i))) (by rw [W_len, wkN_len]; omega) R hR
  simp only [<- wk_N] at fr
  refine fr _ ?_
  unfold tryP at hx hr
  have ei : IntKind.wrap .i64 ((i : Int) + 1) = ((i + 1 : Nat) : Int) := wrap64 (by omega) (by omega)
  rw [ei]
  have ei' : (i : Int) + 1 = ((i + 1 : Nat) : Int) := by omega
  rw [ei'] at hx hr
  by_cases hf : freeP l has v (wk u i) = true
  rotate_left
  ·rw [if_neg hf] at hx hr
   exact Ev.pos (by simpa using hf) (visitL hG hv h1 h2 hk hrec ih m (i + 1) (by rw [Int.toNat_natCast]; omega) has vis g1 g2 g3 (fun n => Kx (n + 1)) (fun n => Kr (n + 1)) (fun e => (hx e).shift) (fun e => (hr e).shift))
  rw [if_pos hf] at hx hr
  have e1 := g1.1
  have hs : Has w (has.set v.toNat (wk u i)) := g1.set (wk_len (by omega) (by omega))
  obtain ⟨k1, k2, k3, k4⟩ := hrec (has.set v.toNat (wk u i)) vis hs g2 g3
  rw [wrap64 (x := k + 1) (by omega) (by omega), <- wk_N]
  refine Ev.neg (by simpa using hf) (Ev.grd (by simp; omega) (ih _ vis hs g2 g3 _ ?_))
  generalize rec (has.set v.toNat (wk u i)) vis = r at hx hr k1 k2 k3 k4
  by_cases c0 : r.1 = 0
  ·simp only [c0, if_true] at hx hr
   refine Ev.pos (by simpa using c0) ?_
   have := (hr (by decide)).shift
   simpa [c0] using this
  have e2 := k1.1
  refine Ev.neg (by simpa using c0) (Ev.grd (by simp; omega) ?_)
  by_cases c2 : r.1 = 2
  ·simp only [c0, c2, if_true, if_false, show ¬ (2 : Int) = 0 from by decide] at hx hr
   refine Ev.neg (by simp [c2]) ?_
   have ef : decide (r.1 = 3) = false := by simp [c2]
   rw [ef]
   exact visitL hG hv h1 h2 hk hrec ih m (i + 1) (by rw [Int.toNat_natCast]; omega) _ r.2.2 (k1.set (by simp)) k2 k3 (fun n => Kx (n + 1)) (fun n => Kr (n + 1)) (fun e => (hx e).shift) (fun e => (hr e).shift)
  ·simp only [c0, c2, if_false, if_true] at hx hr
   have c3 : r.1 = 3 := by omega
   refine Ev.pos (by simpa using c3) ?_
   have := (hr (by exact c2)).shift
   simpa [c3] using this
theorem visit_wp (hG : GOk w l nar most) : ∀ (ys : List Int) (k : Int), nar.drop k.toNat = ys -> 0 <= k -> k + ys.length = nar.length -> ∀ (has : List tBits) (vis : Int), Has w has -> 0 <= vis -> vis <= most ->
  ∀ R : Nat -> Bool -> List Int -> List tBar -> List tBits -> List Int -> Int -> Int -> Bool -> Prop,
  Ev (fun n => R n (decide ((searchP true w l most ys has vis).1 = 0)) w l (searchP true w l most ys has vis).2.1 nar (searchP true w l most ys has vis).2.2 most (decide ((searchP true w l most ys has vis).1 = 3))) ->
  Ev (fun n => Z45.c n w l has nar vis most false k (R n))
 | [], k, h, h0, hk, has, vis, g1, g2, g3, R, hR => by
  refine Ev.succ ?_
  simp only [Z45.c_s, Z45.w]
  rw [List.length_nil] at hk
  exact Ev.pos (by simp; omega) (Ev.shift hR)
 | v :: ys, k, h, h0, hk, has, vis, g1, g2, g3, R, hR => by
  obtain ⟨e1, e2, e3⟩ := drop_cons h h0
  have hln := hG.hln
  have hm := hG.hm
  rw [List.length_cons] at hk
  have hv := hG.hn v (e2 ▸ rd_mem (by omega))
  have hwd := hG.hW _ (rd_mem (l := w) (i := v.toNat) (by omega))
  have ih := visit_wp hG ys (k + 1) e3 (by omega) (by omega)
  refine Ev.succ ?_
  simp only [Z45.c_s, Z45.w]
  unfold searchP at hR
  refine Ev.neg (by simp; omega) ?_
  by_cases hq : vis = most
  ·rw [if_pos hq] at hR
   exact Ev.pos (by simpa using hq) (Ev.shift hR)
  rw [if_neg hq] at hR
  rw [e2, wrap64 (x := vis + 1) (by omega) (by omega)]
  refine Ev.neg (by simpa using hq) (Ev.grd (by simp; omega) (Ev.grd (by simp; omega) ?_))
  have hkp := fun has vis => searchP_kept (rdW hG.hW) ys has vis (s := true) (l := l) (most := most)
  refine visitL hG ⟨hv.1, hv.2.1⟩ hwd.1 hv.2.2 ⟨h0, by omega⟩ hkp ih (2 ^ (rd w v.toNat).toNat) 0 (by omega) has (vis + 1) g1 (by omega) (by omega) (fun n y160 y161 y162 y163 y164 y165 y166 => R (n + 1) false y162 y163 y160 y161 y164 y165 y166) (fun n y167 y168 y169 y170 y171 y172 y173 y174 => R (n + 1) y167 y170 y171 y168 y169 y172 y173 y174) (fun e => ?_) (fun e => ?_)
  ·have e' : (tryP (searchP true w l most ys) true l v (rd w v.toNat) (2 ^ (rd w v.toNat).toNat) 0 has (vis + 1)).1 = 2 := e
   rw [e'] at hR; exact Ev.shift hR
  ·exact Ev.shift hR
end
end Go.Vsi
end

section
set_option linter.unusedVariables false
set_option linter.unusedSimpArgs false
set_option synthInstance.maxSize 4096
namespace Go.Vsi
theorem crowd_cr {v : Int} {l : List tBar} : crowd v l = (cr v l : Int) := rfl
theorem npS_lp {w : List Int} {l : List tBar} (hw : w.length <= 200) (hl : l.length <= 1000) (hg : ∀ b ∈ l, InG w.length b) (hW : ∀ x ∈ w, 1 <= x /\ x <= 4096) {x51 x60 x61 : Int} {x53 x54 : List tBits} {x58 : List Int} {x59 : List tBar} {x62 : Bool} : ∀ (ys : List Int) (x : Int) (nar : List Int), w.drop x.toNat = ys -> 0 <= x -> nar.length + ys.length <= 200 ->
  ∀ (Kx : Nat -> Int -> List tBits -> List tBits -> List Int -> List Int -> List tBar -> List Int -> List tBar -> Int -> Int -> Bool -> Prop),
  Ev (fun n => Kx n x51 x53 x54 (nar ++ narrowP l ys x) w l x58 x59 x60 x61 x62) ->
  Ev (fun n => Z39.l6 n x51 x53 x54 w l x58 x59 x60 x61 x62 x nar (Kx n))
 | [], x, nar, h, h0, hn, Kx, hx => by
  have := drop_nil h h0
  refine Ev.succ ?_
  simp only [Z39.l6, Z39.l6.b]
  rw [narrowP, List.append_nil] at hx
  exact Ev.neg (by simp; omega) hx.shift
 | y :: ys, x, nar, h, h0, hn, Kx, hx => by
  obtain ⟨e1, e2, e3⟩ := drop_cons h h0
  have hy := hW y (e2 ▸ rd_mem (by omega))
  have hcr := cr_le (v := x) (l := l)
  rw [List.length_cons] at hn
  have ih := fun nar' hn' hx' => npS_lp hw hl hg hW ys (x + 1) nar' e3 (by omega) hn' (fun n => Kx (n + 1)) hx' (x51 := x51) (x53 := x53) (x54 := x54) (x58 := x58) (x59 := x59) (x60 := x60) (x61 := x61) (x62 := x62)
  have cs := fun R => crowdS_ev (v := x) (w := w) (l := l) h0 hl (fun b hb => ⟨(hg b hb).2.2.2.2.2, (hg b hb).2.2.1⟩) R
  have i0 : ∀ z : List Int, z.length + ([x] : List Int).length <= z.length + 1 := fun z => by simp
  refine Ev.succ ?_
  simp only [Z39.l6, Z39.l6.b, Z39.j1, and_self]
  rw [e2, wrap64 (x := x + 1) (by omega) (by omega), wrapU (x := y) (by omega) (by omega)]
  unfold narrowP at hx
  refine Ev.pos (by simp; omega) (Ev.grd (by simp; omega) ?_)
  by_cases h1 : y <= 10
  rotate_left
  ·rw [if_neg (fun h => h1 h.1)] at hx
   exact Ev.neg (by simpa using h1) (Ev.neg (by simp) (ih nar (by omega) hx.shift))
  have ec : ((riv x l).1.length : Int) + (riv x l).2.length = (cr x l : Int) := by rw [cr]; omega
  rw [ec] at hx
  rw [shl1 hy.1 h1]
  have core : Ev fun n => if decide (crowd x l >= 2 ^ y.toNat) = true then grd (decide (nar.length + ([x] : List Int).length <= 7818749353073)) (Z39.l6 n x51 x53 x54 w l x58 x59 x60 x61 x62 (x + 1) (nar ++ [x]) (Kx (n + 1))) else Z39.l6 n x51 x53 x54 w l x58 x59 x60 x61 x62 (x + 1) nar (Kx (n + 1)) := by
   by_cases h2 : (2 : Int) ^ y.toNat <= (cr x l : Int)
   ·rw [if_pos ⟨h1, h2⟩] at hx
    refine Ev.pos (by rw [decide_eq_true_eq, crowd_cr]; exact h2) (Ev.grd (by simp; omega) (ih _ (by simp; omega) ?_))
    rw [List.append_assoc]; exact hx.shift
   ·rw [if_neg (fun h => h2 h.2)] at hx
    exact Ev.neg (by rw [decide_eq_true_eq, crowd_cr]; exact h2) (ih nar (by omega) hx.shift)
  refine Ev.pos (by simpa using h1) (Ev.and ?_ (Ev.grd (by simp; omega) (Ev.and ?_ (Ev.grd (by simp; omega) ?_))))
  ·rw [cs]; exact Ev.grd (by simp; omega) (Ev.grd (by simp; omega) core)
  ·rw [cs]; exact Ev.grd (by simp; omega) core
  ·rw [cs]; exact core
section
variable {w : List Int} {l : List tBar} {nar : List Int} {most : Int}
theorem l20_wp (hG : GOk w l nar most) {has : List tBits} (hh : Has w has) {v x160 x161 : Int} {x154 x158 : List Int} {x159 : List tBar} {x162 : Bool} (hv : 0 <= v /\ v < (w.length : Int)) {y : Nat} (h1 : 1 <= y) (h2 : y <= 4096) :
  ∀ (m i : Nat), (∃ j, j <= m /\ freeP l has v (wk y ((i + j : Nat) : Int)) = true) -> i + m < 2 ^ min y 63 ->
  ∀ Kx : Nat -> Int -> List Int -> List tBits -> List Int -> List Int -> List tBar -> Int -> List Int -> List tBar -> Int -> Int -> Bool -> Prop,
  Ev (fun n => Kx n v (W (wkN y (ff l has v y m i))) has x154 w l y x158 x159 x160 x161 x162) ->
  Ev (fun n => Z39.l20 n v has x154 w l x158 x159 x160 x161 x162 (W (wkN y i)) y (Kx n))
 | m, i, ⟨j, hj, hf⟩, hb, Kx, hx => by
  have fr := fun R hR => freeS_wp hG.hl hG.hg hh (v := v) (b := ((y : Int), W (wkN y i))) (by rw [W_len, wkN_len]; omega) R hR
  simp only [<- wk_N] at fr
  refine Ev.succ ?_
  simp only [Z39.l20, Z39.l20.b]
  refine fr _ ?_
  by_cases hfi : freeP l has v (wk y i) = true
  ·rw [hfi]
   refine Ev.neg (by simp) ?_
   have : ff l has v y m i = i := by
    cases m with
    | zero => rfl
    | succ m => rw [ff, if_pos hfi]
   rw [this] at hx
   exact hx.shift
  ·refine Ev.pos (by simpa using hfi) ?_
   match m, j, hj, hf with
   | m, 0, hj, hf => exact absurd hf hfi
   | 0, j + 1, hj, hf => omega
   | m + 1, j + 1, hj, hf =>
    refine nextS_wp h1 h2 (by omega) _ ?_
    rw [ff, if_neg hfi] at hx
    exact l20_wp hG hh hv h1 h2 m (i + 1) ⟨j, by omega, by rw [show i + 1 + j = i + (j + 1) from by omega]; exact hf⟩ (by omega) (fun n => Kx (n + 1)) hx.shift
theorem l16_wp (hG : GOk w l nar most) {vis : Int} {x233 x236 : List Int} {x237 : List tBar} {x239 : Int} {x240 : Bool} : ∀ (ys : List Int) (x : Int) (has : List tBits), w.drop x.toNat = ys -> 0 <= x -> Has w has -> NarOk w l has ->
  ∀ Kx : Nat -> List tBits -> List Int -> List Int -> List tBar -> Int -> Int -> Bool -> Prop,
  Ev (fun n => Kx n (fillP l ys x has) x233 x236 x237 vis x239 x240) ->
  Ev (fun n => Z39.l16 n x has x233 w l x236 x237 vis x239 x240 (Kx n))
 | [], x, has, h, h0, hh, hN, Kx, hx => by
  have := drop_nil h h0
  refine Ev.succ ?_
  simp only [Z39.l16, Z39.l16.b]
  exact Ev.neg (by simp; omega) hx.shift
 | y :: ys, x, has, h, h0, hh, hN, Kx, hx => by
  obtain ⟨e1, e2, e3⟩ := drop_cons h h0
  have hw := hG.hw
  have hlen := hh.1
  have hy := hG.hW y (e2 ▸ rd_mem (by omega))
  refine Ev.succ ?_
  simp only [Z39.l16, Z39.l16.b]
  rw [wrap64 (x := x + 1) (by omega) (by omega)]
  refine Ev.pos (by simp; omega) (Ev.grd (by simp; omega) ?_)
  unfold fillP at hx
  by_cases hp : (rd has x.toNat).1 > 0
  ·rw [if_pos hp] at hx
   exact Ev.pos (by simpa using hp) (l16_wp hG ys (x + 1) has e3 (by omega) hh hN (fun n => Kx (n + 1)) hx.shift)
  rw [if_neg hp] at hx
  refine Ev.neg (by simpa using hp) (Ev.grd (by simp; omega) ?_)
  rw [e2]
  obtain ⟨u, rfl⟩ : ∃ u : Nat, y = u := ⟨y.toNat, by omega⟩
  have b0 := fun R hR => bitsOfS_wp (w := u) (k := 0) (by omega) (by omega) (Nat.two_pow_pos _) R hR
  refine b0 _ ?_
  have hroom := room hG.hl (v := x) hy.1 (fun hn => hp (hN x h0 e1 (by rw [e2]; exact hn.1) (by rw [e2]; exact hn.2)))
  rw [Int.toNat_natCast] at hroom
  have hone := free_one (has := has) (l := l) (v := x) (w := u) (by omega) h0 (fun b hb => (hG.hg b hb).2.2.1)
  refine l20_wp hG hh ⟨h0, e1⟩ (by omega) (by omega) (cr x l) 0 (by simpa using hone) (by omega) (fun n y293 y294 y295 y296 y297 y298 y299 y300 y301 y302 y303 y304 => _) ?_
  refine Ev.grd (by simp; omega) ?_
  rw [wrap64 (x := x + 1) (by omega) (by omega), <- wk_N]
  exact l16_wp hG ys (x + 1) _ e3 (by omega) (hh.set (wk_len (by omega) (by omega))) (hN.set (by show (u : Int) > 0; omega) (by omega)) (fun n => Kx (n + 1)) hx.shift
end
theorem colourS_wp {w : List Int} {l : List tBar} {most : Int} (hd : ∀ b ∈ l, Wd b.2.2.2) (hy : ∀ b ∈ l, b.2.2.2.length <= 1099511627776) (R : Nat -> List tBits -> Int -> Int -> Prop)
  (hR : Ev fun n => R n (colourP true w l most).1 (colourP true w l most).2.1 (colourP true w l most).2.2) : Ev (fun n => Z39.c n w l most (R n)) := by
 unfold colourP at hR
 refine Ev.succ ?_
 simp only [Z39.c, Z39.w]
 rw [graphOkS_ev hd]
 by_cases hg : graphOk w l = true
 rotate_left
 ·rw [if_neg (fun h => hg h.1)] at hR
  exact Ev.neg (by simpa using hg) hR.shift
 refine Ev.pos (by simpa using hg) ?_
 rw [l1In_ev]
 by_cases hm : 0 <= most /\ most <= 20000
 rotate_left
 ·rw [if_neg (fun h => hm h.2)] at hR
  exact Ev.pos (by simp; omega) hR.shift
 rw [if_pos ⟨hg, hm⟩] at hR
 refine Ev.neg (by simp; omega) ?_
 have hG := gok_of hy hg hm
 have hw := hG.hw
 simp only [Z39.j3, Z39.j2, and_self]
 refine Ev.grd (by simp; omega) ?_
 rw [Int.toNat_natCast]
 refine npS_lp hG.hw hG.hl hG.hg hG.hW w 0 [] (by simp) (by omega) (by simp; omega) (fun n y100 y101 y102 y103 y104 y105 y106 y107 y108 y109 y110 => _) ?_
 rw [List.nil_append]
 refine visit_wp hG (narrowP l w 0) 0 (by simp) (by omega) (by omega) _ 0 has_zero (by omega) hm.1 _ ?_
 have hgv := searchP_gives (s := true) (l := l) (most := most) hG.hW (narrowP l w 0) (List.replicate w.length (0, [])) 0 narrow_nodup (fun v hv => ⟨(hG.hn v hv).1, (hG.hn v hv).2.1⟩) has_zero (by omega) hm.1
 have hkp := searchP_kept (s := true) (l := l) (most := most) (rdW hG.hW) (narrowP l w 0) (List.replicate w.length (0, [])) 0 has_zero (by omega) hm.1
 generalize searchP true w l most (narrowP l w 0) (List.replicate w.length (0, [])) 0 = r at hR hgv hkp
 obtain ⟨k1, k2, k3, k4⟩ := hkp
 by_cases c3 : r.1 = 3
 ·simp only [c3, if_true, if_false, show ¬ (3 : Int) = 2 from by decide] at hR
  exact Ev.pos (by simpa using c3) hR.shift
 by_cases c2 : r.1 = 2
 ·simp only [c2, if_true] at hR
  exact Ev.neg (by simpa using c3) (Ev.pos (by simp [c2]) hR.shift)
 simp only [c2, c3, if_false] at hR
 have c0 : r.1 = 0 := by omega
 refine Ev.neg (by simpa using c3) (Ev.neg (by simp [c0]) ?_)
 exact l16_wp hG w 0 r.2.1 (by simp) (by omega) k1 (fun v h0 h1 h2 h3 => hgv.2 c0 v (mem_narrow.2 ⟨h0, by omega, by rw [Int.sub_zero]; exact h2, by rw [Int.sub_zero]; exact h3⟩)) (fun n y312 y313 y314 y315 y316 y317 y318 => R (n + 1) y312 y316 0) hR.shift
def Alike (a b : Int × List tBits × Int) : Prop := a.1 = b.1 /\ a.2.2 = b.2.2 /\ (a.1 ≠ 3 -> a.2.1 = b.2.1)
theorem tryP_alike {w : List Int} {l : List tBar} {most v wd : Int} {f g : List tBits -> Int -> Int × List tBits × Int} (hwd : 0 <= wd) (hwd' : wd <= 4096)
  (hk : ∀ has vis, Has w has -> 0 <= vis -> vis <= most -> Kept w most (f has vis)) (hr : ∀ has vis, Has w has -> 0 <= vis -> vis <= most -> Alike (f has vis) (g has vis)) :
  ∀ (m : Nat) (k : Int) (has : List tBits) (vis : Int), Has w has -> 0 <= vis -> vis <= most -> Alike (tryP f false l v wd m k has vis) (tryP g true l v wd m k has vis)
 | 0, k, has, vis, h1, h2, h3 => ⟨rfl, rfl, fun _ => rfl⟩
 | m + 1, k, has, vis, h1, h2, h3 => by
  unfold tryP
  by_cases hf : freeP l has v (wk wd k) = true
  rotate_left
  ·rw [if_neg hf, if_neg hf]; exact tryP_alike hwd hwd' hk hr m (k + 1) has vis h1 h2 h3
  rw [if_pos hf, if_pos hf]
  have hs : Has w (has.set v.toNat (wk wd k)) := h1.set (wk_len hwd hwd')
  obtain ⟨g1, g2, g3, g4⟩ := hk (has.set v.toNat (wk wd k)) vis hs h2 h3
  obtain ⟨a1, a2, a3⟩ := hr (has.set v.toNat (wk wd k)) vis hs h2 h3
  generalize f (has.set v.toNat (wk wd k)) vis = r at g1 g2 g3 g4 a1 a2 a3
  generalize g (has.set v.toNat (wk wd k)) vis = q at a1 a2 a3
  simp only [<- a1]
  by_cases c0 : r.1 = 0
  ·simp only [c0, if_true]; exact ⟨by rw [<- a1], a2, fun _ => a3 (by omega)⟩
  by_cases c2 : r.1 = 2
  ·simp only [c0, c2, if_true, if_false, show ¬ (2 : Int) = 0 from by decide]
   rw [<- a2, <- a3 (by omega)]
   exact tryP_alike hwd hwd' hk hr m (k + 1) _ _ (g1.set (by simp)) g2 g3
  ·simp only [c0, c2, if_false]
   exact ⟨rfl, a2, fun h => absurd (by show r.1 = 3; omega) h⟩
theorem searchP_alike {w : List Int} {l : List tBar} {most : Int} (hW : ∀ v : Int, 0 <= rd w v.toNat /\ rd w v.toNat <= 4096) : ∀ (nar : List Int) (has : List tBits) (vis : Int), Has w has -> 0 <= vis -> vis <= most -> Alike (searchP false w l most nar has vis) (searchP true w l most nar has vis)
 | [], has, vis, h1, h2, h3 => ⟨rfl, rfl, fun _ => rfl⟩
 | v :: nar, has, vis, h1, h2, h3 => by
  unfold searchP
  split
  ·exact ⟨rfl, rfl, fun _ => rfl⟩
  ·rename_i hm
   exact tryP_alike (hW v).1 (hW v).2 (fun has vis => searchP_kept hW nar has vis) (fun has vis => searchP_alike hW nar has vis) _ 0 has (vis + 1) h1 (by omega) (by omega)
theorem colour_one {w : List Int} {l : List tBar} {most : Int} : colourP true w l most = colourP false w l most := by
 unfold colourP
 by_cases h : graphOk w l = true /\ 0 <= most /\ most <= 20000
 rotate_left
 ·rw [if_neg h, if_neg h]
 rw [if_pos h, if_pos h]
 obtain ⟨a1, a2, a3⟩ := searchP_alike (l := l) (rdW (graphOk_w h.1)) (narrowP l w 0) (List.replicate w.length (0, [])) 0 has_zero (by omega) h.2.1
 simp only [<- a1, <- a2]
 by_cases c2 : (searchP false w l most (narrowP l w 0) (List.replicate w.length (0, [])) 0).1 = 2
 ·rw [if_pos c2, if_pos c2]
 rw [if_neg c2, if_neg c2]
 by_cases c3 : (searchP false w l most (narrowP l w 0) (List.replicate w.length (0, [])) 0).1 = 3
 ·rw [if_pos c3, if_pos c3]
 rw [if_neg c3, if_neg c3, a3 c3]
end Go.Vsi
end

section
set_option linter.unusedVariables false
set_option linter.unusedSimpArgs false
set_option synthInstance.maxSize 4096
namespace Go.Vsi
theorem free_iff {l : List tBar} {has : List tBits} {v : Int} {b : tBits} : freeP l has v b = true ↔ ∀ y ∈ l, forb has v y ≠ b := by
 unfold freeP
 rw [Bool.not_eq_true', Bool.eq_false_iff, Ne, List.any_eq_true]
 constructor
 ·intro h y hy e; exact h ⟨y, hy, by simpa using e⟩
 ·rintro h ⟨y, hy, e⟩; exact h y hy (by simpa using e)
def GoodC (l : List tBar) (has : List tBits) : Prop := ∀ y ∈ l, (rd has y.1.toNat).1 > 0 ->
 (y.2.1 < 0 -> rd has y.1.toNat ≠ y.2.2) /\ (0 <= y.2.1 -> (rd has y.2.1.toNat).1 > 0 -> rd has y.1.toNat ≠ rd has y.2.1.toNat)
def WdsC (w : List Int) (has : List tBits) : Prop := ∀ i : Nat, i < w.length -> rd has i = (0, []) \/ ∃ k : Nat, k < 2 ^ min (rd w i).toNat 63 /\ rd has i = wk (rd w i) k
structure InvC (w : List Int) (l : List tBar) (h : List tBits) : Prop where
 has : Has w h
 good : GoodC l h
 wds : WdsC w h
theorem rd_set0 {l : List tBits} {i : Nat} : rd (l.set i (0, [])) i = (0, []) := by
 by_cases h : i < l.length
 ·exact rd_set h
 ·rw [rd, List.getD_eq_getElem?_getD, List.getElem?_eq_none (by rw [List.length_set]; omega)]; rfl
theorem rd_zero {n i : Nat} : rd (List.replicate n ((0, []) : tBits)) i = (0, []) := by
 rw [rd, List.getD_eq_getElem?_getD, List.getElem?_replicate]
 split <;> rfl
theorem InvC.zero {w : List Int} {l : List tBar} : InvC w l (List.replicate w.length (0, [])) :=
 ⟨has_zero, fun y hy h => by rw [rd_zero] at h; exact absurd h (by decide), fun i _ => .inl rd_zero⟩
theorem InvC.put {w : List Int} {l : List tBar} {has : List tBits} (h : InvC w l has) (hg : ∀ b ∈ l, InG w.length b) {v : Int} (hv : 0 <= v /\ v < (w.length : Int)) {k : Nat} (hw : 1 <= rd w v.toNat /\ rd w v.toNat <= 4096)
  (hk : k < 2 ^ min (rd w v.toNat).toNat 63) (hf : freeP l has v (wk (rd w v.toNat) k) = true) : InvC w l (has.set v.toNat (wk (rd w v.toNat) k)) := by
 have hl := h.has.1
 rw [free_iff] at hf
 refine ⟨h.has.set (wk_len (by omega) hw.2), fun y hy h0 => ?_, fun i hi => ?_⟩
 ·obtain ⟨g1, g2, g3, g4, g5, g6⟩ := hg y hy
  have hfy := hf y hy
  have hgy := h.good y hy
  by_cases c1 : y.1 = v
  ·rw [c1, rd_set (by omega)]
   refine ⟨fun c2 e => ?_, fun c2 _ e => ?_⟩
   ·rw [forb, if_pos ⟨c1, c2⟩] at hfy; exact hfy e.symm
   ·rw [forb, if_neg (by omega), if_pos c1] at hfy
    rw [rd_set_ne (by omega)] at e; exact hfy e.symm
  ·have n1 : y.1.toNat ≠ v.toNat := by omega
   rw [rd_set_ne n1] at h0 ⊢
   refine ⟨(hgy h0).1, fun c2 c3 e => ?_⟩
   by_cases c4 : y.2.1 = v
   ·rw [c4, rd_set (by omega)] at e
    rw [forb, if_neg (by omega), if_neg c1, if_pos c4] at hfy; exact hfy e
   ·have n2 : y.2.1.toNat ≠ v.toNat := by omega
    rw [rd_set_ne n2] at e c3
    exact (hgy h0).2 c2 c3 e
 ·by_cases e : i = v.toNat
  ·subst e; rw [rd_set (by omega)]; exact .inr ⟨k, hk, rfl⟩
  ·rw [rd_set_ne e]; exact h.wds i hi
theorem InvC.clear {w : List Int} {l : List tBar} {has : List tBits} (h : InvC w l has) {v : Nat} : InvC w l (has.set v (0, [])) := by
 refine ⟨h.has.set (by simp), fun y hy h0 => ?_, fun i hi => ?_⟩
 ·by_cases c1 : y.1.toNat = v
  ·rw [c1, rd_set0] at h0; exact absurd h0 (by decide)
  ·rw [rd_set_ne c1] at h0 ⊢
   refine ⟨(h.good y hy h0).1, fun c2 c3 => ?_⟩
   by_cases c4 : y.2.1.toNat = v
   ·rw [c4, rd_set0] at c3; exact absurd c3 (by decide)
   ·rw [rd_set_ne c4] at c3 ⊢; exact (h.good y hy h0).2 c2 c3
 ·by_cases e : i = v
  ·subst e; exact .inl rd_set0
  ·rw [rd_set_ne e]; exact h.wds i hi
theorem tryP_inv {w : List Int} {l : List tBar} {v : Int} {rec : List tBits -> Int -> Int × List tBits × Int} {s : Bool} (hg : ∀ b ∈ l, InG w.length b) (hv : 0 <= v /\ v < (w.length : Int)) (hw : 1 <= rd w v.toNat /\ rd w v.toNat <= 10)
  (hr : ∀ has vis, InvC w l has -> InvC w l (rec has vis).2.1) : ∀ (m k : Nat), k + m = 2 ^ (rd w v.toNat).toNat -> ∀ (has : List tBits) (vis : Int), InvC w l has -> InvC w l (tryP rec s l v (rd w v.toNat) m k has vis).2.1
 | 0, k, h, has, vis, hi => hi
 | m + 1, k, h, has, vis, hi => by
  unfold tryP
  rw [show (k : Int) + 1 = ((k + 1 : Nat) : Int) from by omega]
  by_cases hf : freeP l has v (wk (rd w v.toNat) k) = true
  ·rw [if_pos hf]
   have h1 := hr _ vis (hi.put hg hv ⟨hw.1, by omega⟩ (k := k) (by rw [Nat.min_eq_left (by omega)]; omega) hf)
   simp only []
   split
   ·exact h1
   split
   ·exact tryP_inv hg hv hw hr m (k + 1) (by omega) _ _ h1.clear
   ·simp only []
    split
    ·exact h1.clear
    ·exact h1
  ·rw [if_neg hf]; exact tryP_inv hg hv hw hr m (k + 1) (by omega) has vis hi
theorem searchP_inv {w : List Int} {l : List tBar} {most : Int} {s : Bool} (hg : ∀ b ∈ l, InG w.length b) (hW : ∀ x ∈ w, 1 <= x /\ x <= 4096) : ∀ (nar : List Int), (∀ v ∈ nar, 0 <= v /\ v < (w.length : Int) /\ rd w v.toNat <= 10) -> ∀ (has : List tBits) (vis : Int), InvC w l has -> InvC w l (searchP s w l most nar has vis).2.1
 | [], hn, has, vis, hi => hi
 | v :: nar, hn, has, vis, hi => by
  have hv := hn v List.mem_cons_self
  unfold searchP
  split
  ·exact hi
  ·have hwd := hW _ (rd_mem (l := w) (i := v.toNat) (by omega))
   exact tryP_inv hg ⟨hv.1, hv.2.1⟩ ⟨hwd.1, hv.2.2⟩ (fun has vis => searchP_inv hg hW nar (fun u hu => hn u (List.mem_cons_of_mem _ hu)) has vis) _ 0 (by omega) has (vis + 1) hi
theorem fill_inv {w : List Int} {l : List tBar} (hl : l.length <= 1000) (hg : ∀ b ∈ l, InG w.length b) (hW : ∀ x ∈ w, 1 <= x /\ x <= 4096) : ∀ (ys : List Int) (x : Int) (has : List tBits), w.drop x.toNat = ys -> 0 <= x -> InvC w l has -> NarOk w l has -> (∀ i : Nat, i < x.toNat -> (rd has i).1 > 0) ->
  InvC w l (fillP l ys x has) /\ ∀ i : Nat, i < w.length -> (rd (fillP l ys x has) i).1 > 0
 | [], x, has, h, h0, hi, hN, hp => by
  have := drop_nil h h0
  exact ⟨hi, fun i hi => hp i (by omega)⟩
 | y :: ys, x, has, h, h0, hi, hN, hp => by
  obtain ⟨e1, e2, e3⟩ := drop_cons h h0
  have hlen := hi.has.1
  have hy := hW y (e2 ▸ rd_mem (by omega))
  have ex : (x + 1).toNat = x.toNat + 1 := by omega
  unfold fillP
  by_cases hq : (rd has x.toNat).1 > 0
  ·rw [if_pos hq]
   exact fill_inv hl hg hW ys (x + 1) has e3 (by omega) hi hN (fun i hi => by
    by_cases e : i = x.toNat
    ·rw [e]; exact hq
    ·exact hp i (by omega))
  ·rw [if_neg hq]
   have hroom := room hl (v := x) hy.1 (fun hn => hq (hN x h0 e1 (by rw [e2]; exact hn.1) (by rw [e2]; exact hn.2)))
   obtain ⟨u, rfl⟩ : ∃ u : Nat, y = u := ⟨y.toNat, by omega⟩
   have hone := free_one (has := has) (l := l) (v := x) (w := u) (by omega) h0 (fun b hb => (hg b hb).2.2.1)
   have hff := ff_free (l := l) (has := has) (v := x) (w := (u : Int)) (m := cr x l) (i := 0) (by simpa using hone)
   have hi' := hi.put hg ⟨h0, e1⟩ (k := ff l has x u (cr x l) 0) (by rw [e2]; exact hy) (by rw [e2]; omega) (by rw [e2]; exact hff.1)
   rw [e2] at hi'
   have hpos : (wk (u : Int) ((ff l has x u (cr x l) 0 : Nat) : Int)).1 > 0 := by show (u : Int) > 0; omega
   exact fill_inv hl hg hW ys (x + 1) _ e3 (by omega) hi' (hN.set hpos (by omega)) (fun i hi => by
    by_cases e : i = x.toNat
    ·rw [e, rd_set (by omega)]; exact hpos
    ·rw [rd_set_ne e]; exact hp i (by omega))
theorem wordsGo_of {w : List Int} : ∀ {ws : List tBits} {x : Int}, 0 <= x -> (∀ i : Nat, i < ws.length -> bitsOk (rd ws i).1 (rd ws i).2 = true /\ (rd ws i).1 = rd w (x.toNat + i)) -> wordsGo w ws x = true
 | [], x, _, _ => rfl
 | b :: ws, x, h0, h => by
  have hb := h 0 (by simp)
  rw [wordsGo, wordsGo_of (by omega) (fun i hi => by
   have := h (i + 1) (by simpa using hi)
   rw [show (x + 1).toNat + i = x.toNat + (i + 1) from by omega]; exact this)]
  have e : rd (b :: ws) 0 = b := rfl
  rw [e] at hb
  rw [hb.1, decide_eq_true (by simpa using hb.2)]; rfl
theorem noneSame_of {ws : List tBits} : ∀ {l : List tBar}, noneSame ws l = true ↔ ∀ y ∈ l, rd ws y.1.toNat ≠ otherOf ws y
 | [] => by simp [noneSame]
 | y :: l => by
  rw [noneSame, Bool.and_eq_true, noneSame_of, List.forall_mem_cons]
  have : (!sameIn ws y) = true ↔ rd ws y.1.toNat ≠ otherOf ws y := by
   rw [Bool.not_eq_true', sameIn, decide_eq_false_iff_not, Ne]
   exact ⟨fun h e => h (by rw [e]; exact ⟨rfl, rfl⟩), fun h e => h (Prod.ext e.1 e.2)⟩
  rw [this]
theorem colour_right {w : List Int} {l : List tBar} {ws : List tBits} (hgo : graphOk w l = true) (hg : ∀ b ∈ l, InG w.length b) (hi : InvC w l ws) (hp : ∀ i : Nat, i < w.length -> (rd ws i).1 > 0) : colourOk w l ws = true := by
 have hW := graphOk_w hgo
 have hlen := hi.has.1
 unfold colourOk
 have p1 : wordsGo w ws 0 = true := by
  refine wordsGo_of (by omega) (fun i hi' => ?_)
  have hwi := hW _ (rd_mem (l := w) (i := i) (by omega))
  rcases hi.wds i (by omega) with e | ⟨k, hk, e⟩
  ·have := hp i (by omega)
   rw [e] at this; exact absurd this (by decide)
  ·obtain ⟨u, hu⟩ : ∃ u : Nat, rd w i = u := ⟨(rd w i).toNat, by omega⟩
   rw [hu] at hk e hwi
   rw [Int.toNat_natCast] at hk
   rw [e, wk_N]
   exact ⟨(wkN_ok (by omega) (by omega) hk).bits, by simpa using hu.symm⟩
 have p2 : noneSame ws l = true := by
  refine noneSame_of.2 (fun y hy => ?_)
  obtain ⟨g1, g2, g3, g4, g5, g6⟩ := hg y hy
  have hgy := hi.good y hy (hp _ (by omega))
  unfold otherOf
  split
  ·exact hgy.1 (by omega)
  ·exact hgy.2 (by omega) (hp _ (by omega))
 rw [hgo, decide_eq_true (by omega), p1, p2]; rfl
structure Sol (w : List Int) (l : List tBar) (ws : List tBits) : Prop where
 words : ∀ i : Nat, i < w.length -> ∃ k : Nat, k < 2 ^ min (rd w i).toNat 63 /\ rd ws i = wk (rd w i) k
 bars : ∀ y ∈ l, (y.2.1 < 0 -> rd ws y.1.toNat ≠ y.2.2) /\ (0 <= y.2.1 -> rd ws y.1.toNat ≠ rd ws y.2.1.toNat)
def SubC (has ws : List tBits) : Prop := ∀ i : Nat, rd has i = (0, []) \/ rd has i = rd ws i
def BackC (has : List tBits) (r : Int × List tBits × Int) : Prop := r.1 = 2 -> ∀ i : Nat, rd r.2.1 i = rd has i \/ rd r.2.1 i = (0, [])
theorem tryP_back {l : List tBar} {v wd : Int} {rec : List tBits -> Int -> Int × List tBits × Int} {s : Bool} (hr : ∀ has vis, BackC has (rec has vis)) :
  ∀ (m : Nat) (k : Int) (has : List tBits) (vis : Int), BackC has (tryP rec s l v wd m k has vis)
 | 0, k, has, vis => fun _ i => .inl rfl
 | m + 1, k, has, vis => by
  unfold tryP
  by_cases hf : freeP l has v (wk wd k) = true
  rotate_left
  ·rw [if_neg hf]; exact tryP_back hr m (k + 1) has vis
  rw [if_pos hf]
  have h1 := hr (has.set v.toNat (wk wd k)) vis
  generalize rec (has.set v.toNat (wk wd k)) vis = r at h1
  by_cases c0 : r.1 = 0
  ·simp only [c0, if_true]; intro h; rw [c0] at h; exact absurd h (by decide)
  by_cases c2 : r.1 = 2
  ·simp only [c0, c2, if_true, if_false, show ¬ (2 : Int) = 0 from by decide]
   intro h i
   rcases tryP_back hr m (k + 1) (r.2.1.set v.toNat (0, [])) r.2.2 h i with e | e
   ·rw [e]
    by_cases ei : i = v.toNat
    ·rw [ei, rd_set0]; exact .inr rfl
    ·rw [rd_set_ne ei]
     rcases h1 c2 i with e' | e'
     ·rw [rd_set_ne ei] at e'; exact .inl e'
     ·exact .inr e'
   ·exact .inr e
  ·simp only [c0, c2, if_false]; intro h; exact absurd h c2
theorem searchP_back {w : List Int} {l : List tBar} {most : Int} {s : Bool} : ∀ (nar : List Int) (has : List tBits) (vis : Int), BackC has (searchP s w l most nar has vis)
 | [], has, vis => fun _ i => .inl rfl
 | v :: nar, has, vis => by
  unfold searchP
  split
  ·exact fun _ i => .inl rfl
  ·exact tryP_back (fun has vis => searchP_back nar has vis) _ 0 has (vis + 1)
theorem tryP_sol {w : List Int} {l : List tBar} {ws : List tBits} {v : Int} {rec : List tBits -> Int -> Int × List tBits × Int} {s : Bool} (hS : Sol w l ws) (hg : ∀ b ∈ l, InG w.length b) (hW : ∀ x ∈ w, 1 <= x /\ x <= 4096) (hv : 0 <= v /\ v < (w.length : Int)) {k0 : Nat} (hk0 : rd ws v.toNat = wk (rd w v.toNat) k0)
  (hb : ∀ has vis, BackC has (rec has vis)) (hr : ∀ has vis, SubC has ws -> (rec has vis).1 ≠ 2) :
  ∀ (m k : Nat), k <= k0 -> k0 < k + m -> ∀ (has : List tBits) (vis : Int), SubC has ws -> (tryP rec s l v (rd w v.toNat) m k has vis).1 ≠ 2
 | 0, k, h1, h2, has, vis, hs => by omega
 | m + 1, k, h1, h2, has, vis, hs => by
  have hwv := hW _ (rd_mem (l := w) (i := v.toNat) (by omega))
  unfold tryP
  rw [show (k : Int) + 1 = ((k + 1 : Nat) : Int) from by omega]
  have hfree : k = k0 -> freeP l has v (wk (rd w v.toNat) k) = true := fun e => by
   rw [e, <- hk0, free_iff]
   intro y hy e'
   obtain ⟨g1, g2, g3, g4, g5, g6⟩ := hg y hy
   have hyb := hS.bars y hy
   have hne : ((0, []) : tBits) ≠ rd ws v.toNat := fun e0 => by
    rw [hk0] at e0
    have := congrArg Prod.fst e0
    simp only [wk] at this; omega
   unfold forb at e'
   split at e'
   ·rename_i c; rw [<- c.1] at e'; exact hyb.1 c.2 e'.symm
   split at e'
   ·rename_i c1 c2
    rcases hs y.2.1.toNat with e2 | e2
    ·rw [e2] at e'; exact hne e'
    ·rw [e2, <- c2] at e'; exact hyb.2 (by omega) e'.symm
   split at e'
   ·rename_i c1 c2 c3
    rcases hs y.1.toNat with e2 | e2
    ·rw [e2] at e'; exact hne e'
    ·rw [e2, <- c3] at e'; exact hyb.2 (by omega) e'
   ·exact hne e'
  by_cases hf : freeP l has v (wk (rd w v.toNat) k) = true
  rotate_left
  ·rw [if_neg hf]
   exact tryP_sol hS hg hW hv hk0 hb hr m (k + 1) (by
    have : k ≠ k0 := fun e => hf (hfree e)
    omega) (by omega) has vis hs
  rw [if_pos hf]
  have b1 := hb (has.set v.toNat (wk (rd w v.toNat) k)) vis
  have r1 : k = k0 -> (rec (has.set v.toNat (wk (rd w v.toNat) k)) vis).1 ≠ 2 := fun e => hr _ _ fun i => by
   by_cases ei : i = v.toNat
   ·subst ei
    by_cases hin : v.toNat < has.length
    ·rw [rd_set hin, e, <- hk0]; exact .inr rfl
    ·left; rw [rd, List.getD_eq_getElem?_getD, List.getElem?_eq_none (by rw [List.length_set]; omega)]; rfl
   ·rw [rd_set_ne ei]; exact hs i
  generalize rec (has.set v.toNat (wk (rd w v.toNat) k)) vis = r at b1 r1
  by_cases c0 : r.1 = 0
  ·simp only [c0, if_true]; decide
  by_cases c2 : r.1 = 2
  ·simp only [c0, c2, if_true, if_false, show ¬ (2 : Int) = 0 from by decide]
   refine tryP_sol hS hg hW hv hk0 hb hr m (k + 1) (by
    have : k ≠ k0 := fun e => r1 e c2
    omega) (by omega) _ _ fun i => ?_
   by_cases ei : i = v.toNat
   ·rw [ei, rd_set0]; exact .inl rfl
   ·rw [rd_set_ne ei]
    rcases b1 c2 i with e' | e'
    ·rw [rd_set_ne ei] at e'; rw [e']; exact hs i
    ·exact .inl e'
  ·simp only [c0, c2, if_false]; exact c2
theorem searchP_sol {w : List Int} {l : List tBar} {ws : List tBits} {most : Int} {s : Bool} (hS : Sol w l ws) (hg : ∀ b ∈ l, InG w.length b) (hW : ∀ x ∈ w, 1 <= x /\ x <= 4096) : ∀ (nar : List Int), (∀ v ∈ nar, 0 <= v /\ v < (w.length : Int) /\ rd w v.toNat <= 10) -> ∀ (has : List tBits) (vis : Int), SubC has ws -> (searchP s w l most nar has vis).1 ≠ 2
 | [], hn, has, vis, hs => by simp [searchP]
 | v :: nar, hn, has, vis, hs => by
  have hv := hn v List.mem_cons_self
  have hwd := hW _ (rd_mem (l := w) (i := v.toNat) (by omega))
  unfold searchP
  split
  ·simp
  ·obtain ⟨k0, hk, e⟩ := hS.words v.toNat (by omega)
   rw [Nat.min_eq_left (by omega)] at hk
   exact tryP_sol hS hg hW ⟨hv.1, hv.2.1⟩ e (fun has vis => searchP_back nar has vis) (fun has vis => searchP_sol hS hg hW nar (fun u hu => hn u (List.mem_cons_of_mem _ hu)) has vis) _ 0 (by omega) (by omega) has (vis + 1) hs
end Go.Vsi
end

section
set_option linter.unusedVariables false
set_option linter.unusedSimpArgs false
namespace Go.Vsi
def Bytes (bs : List Int) : Prop := (∀ x ∈ bs, 0 <= x /\ x < 256) /\ (bs.length : Int) <= 4611686018427387904
def Pos (bs : List Int) (p : Int) : Prop := 0 <= p /\ p <= (bs.length : Int)
theorem rd_in {bs : List Int} {P : Int -> Prop} (h : ∀ x ∈ bs, P x) {i : Nat} (hi : i < bs.length) : P (rd bs i) := by
 simp only [rd, List.getD_eq_getElem?_getD, List.getElem?_eq_getElem hi, Option.getD_some]
 exact h _ (List.getElem_mem hi)
theorem big_wp {a : List Int} {R : Nat -> Bool -> Prop} (h : Ev fun n => R n (decide ((a.length : Int) > 1048576))) : Ev fun n => Z23.c n a (R n) := by
 refine Ev.succ ?_; simp only [Z23.c, Z23.w]; exact h.shift
theorem open_wp {bs : List Int} {R : Nat -> List Int -> Int -> Prop} (h : Ev fun n => R n bs 0) : Ev fun n => Z51.c n bs (R n) := by
 refine Ev.succ ?_; simp only [Z51.c, Z51.w]; exact h.shift
theorem next_wp {bs : List Int} {p : Int} {R : Nat -> Int -> List Int -> Int -> Prop} (hb : Bytes bs) (hp : Pos bs p) (h : ∀ r q, 0 <= r -> r < 256 -> Pos bs q -> Ev (fun n => R n r bs q)) :
  Ev (fun n => Z56.c n bs p (R n)) := by
 obtain ⟨hp0, hp1⟩ := hp
 have hl := hb.2
 refine Ev.succ ?_
 simp only [Z56.c, Z56.w]
 refine Ev.ite (fun hc => (h 0 p (by omega) (by omega) ⟨hp0, hp1⟩).shift) fun hc => ?_
 simp only [decide_eq_true_eq] at hc
 have hr := rd_in hb.1 (i := p.toNat) (by omega)
 simp (disch := omega) only [wrap64, Int.add_sub_cancel]
 exact Ev.grd (by simp; omega) (h _ _ hr.1 hr.2 ⟨by omega, by omega⟩).shift
theorem tmod_in {x m : Int} (hx : 0 <= x) (hm : 1 <= m) : 0 <= Int.tmod x m /\ Int.tmod x m < m := by
 rw [tmodP hx]; exact ⟨Int.emod_nonneg _ (by omega), Int.emod_lt_of_pos _ (by omega)⟩
theorem below_wp {bs : List Int} {p m : Int} {R : Nat -> Int -> List Int -> Int -> Prop} (hb : Bytes bs) (hp : Pos bs p) (hm : 1 <= m) (h : ∀ r q, 0 <= r -> r < m -> Pos bs q -> Ev (fun n => R n r bs q)) :
  Ev (fun n => Z52.c n bs p m (R n)) := by
 refine Ev.succ ?_
 simp only [Z52.c, Z52.w]
 refine Ev.ite (fun hc => (h 0 p (by omega) (by omega) hp).shift) fun hc => Ev.ite (fun hc' => next_wp hb hp fun r q h1 h2 h3 => ?_) fun hc' => next_wp hb hp fun r q h1 h2 h3 => next_wp hb h3 fun r' q' h1' h2' h3' => ?_
 ·have := tmod_in (x := r) (m := m) h1 hm
  exact Ev.grd (by simp; omega) (h _ _ this.1 this.2 h3).shift
 ·simp (disch := omega) only [wrap64]
  have := tmod_in (x := r * 256 + r') (m := m) (by omega) hm
  exact Ev.grd (by simp; omega) (h _ _ this.1 this.2 h3').shift
theorem once_wp {bs : List Int} {p m : Int} {R : Nat -> Bool -> List Int -> Int -> Prop} (hb : Bytes bs) (hp : Pos bs p) (hm : 1 <= m) (h : ∀ r q, Pos bs q -> Ev (fun n => R n r bs q)) :
  Ev (fun n => Z58.c n bs p m (R n)) := by
 refine Ev.succ ?_
 simp only [Z58.c, Z58.w]
 exact below_wp hb hp hm fun r q _ _ h3 => (h _ q h3).shift
theorem wide_wp {bs : List Int} {p : Int} {R : Nat -> Int -> List Int -> Int -> Prop} (hb : Bytes bs) (hp : Pos bs p) (h : ∀ r q, 1 <= r -> r <= 200 -> Pos bs q -> Ev (fun n => R n r bs q)) :
  Ev (fun n => Z59.c n bs p (R n)) := by
 refine Ev.succ ?_
 simp only [Z59.c, Z59.w]
 refine below_wp hb hp (by omega) fun r q h1 h2 h3 => Ev.ite (fun hc => below_wp hb h3 (by omega) fun r' q' h1' h2' h3' => ?_) fun hc => Ev.ite (fun hc' => below_wp hb h3 (by omega) fun r' q' h1' h2' h3' => ?_) fun hc' => below_wp hb h3 (by omega) fun r' q' h1' h2' h3' => ?_
 ·have hr : 1 <= rd ([63, 64, 65, 127, 128, 129, 200] : List Int) r'.toNat /\ rd ([63, 64, 65, 127, 128, 129, 200] : List Int) r'.toNat <= 200 :=
   rd_in (P := fun x => 1 <= x /\ x <= 200) (by decide) (by simp; omega)
  exact Ev.grd (by simp; omega) (h _ _ hr.1 hr.2 h3').shift
 ·simp (disch := omega) only [wrap64]; exact (h _ _ (by omega) (by omega) h3').shift
 ·simp (disch := omega) only [wrap64]; exact (h _ _ (by omega) (by omega) h3').shift
theorem word_lp_wp {bs : List Int} (hb : Bytes bs) : ∀ (m : Nat) (x4 : Int), x4 + m = 8 -> 0 <= x4 -> ∀ (x3 p : Int), 0 <= x3 -> x3 < 18446744073709551616 -> Pos bs p -> ∀ R : Nat -> Int -> List Int -> Int -> Prop,
  (∀ r q, 0 <= r -> r < 18446744073709551616 -> Pos bs q -> Ev (fun n => R n r bs q)) -> Ev (fun n => Z60.l3 n x3 x4 bs p (R n))
 | 0, x4, h, h0, x3, p, h3, h3', hp, R, hR => by
  refine Ev.succ ?_
  simp only [Z60.l3, Z60.l3.b]
  exact Ev.neg (by simp; omega) (hR _ _ h3 h3' hp).shift
 | m + 1, x4, h, h0, x3, p, h3, h3', hp, R, hR => by
  refine Ev.succ ?_
  simp only [Z60.l3, Z60.l3.b]
  refine Ev.pos (by simp; omega) (next_wp hb hp fun r q h1 h2 hq => ?_)
  rw [wrap64 (by omega) (by omega)]
  have := ibitsU .or (IntKind.wrap .u64 (x3 * 2 ^ 8)) (IntKind.wrap .u64 r)
  exact word_lp_wp hb m (x4 + 1) (by omega) (by omega) _ q this.1 this.2 hq (fun n => R (n + 1)) fun r q h1 h2 hq => (hR r q h1 h2 hq).shift
theorem word_wp {bs : List Int} {p : Int} {R : Nat -> Int -> List Int -> Int -> Prop} (hb : Bytes bs) (hp : Pos bs p) (h : ∀ r q, 0 <= r -> r < 18446744073709551616 -> Pos bs q -> Ev (fun n => R n r bs q)) :
  Ev (fun n => Z60.c n bs p (R n)) := by
 refine Ev.succ ?_
 simp only [Z60.c, Z60.w]
 exact word_lp_wp hb 8 0 (by omega) (by omega) 0 p (by omega) (by omega) hp (fun n => R (n + 1)) fun r q h1 h2 hq => (h r q h1 h2 hq).shift
theorem wrapW (x : Int) : IntKind.wrap .u64 (IntKind.wrap .i64 x) = x % 18446744073709551616 := by
 simp only [IntKind.wrap, IntKind.bits, IntKind.signed]
 simp; split <;> omega
def In64 (r : Int) : Prop := -9223372036854775808 <= r /\ r < 9223372036854775808
theorem near_wp {bs : List Int} {p a b : Int} {R : Nat -> Int -> List Int -> Int -> Prop} (hb : Bytes bs) (hp : Pos bs p) (ha : In64 a) (hbb : In64 b) (hab : b - a < 9223372036854775808)
  (h : ∀ r q, In64 r -> (a <= b -> a <= r /\ r <= b) -> Pos bs q -> Ev (fun n => R n r bs q)) : Ev (fun n => Z55.c n bs p a b (R n)) := by
 obtain ⟨a1, a2⟩ := ha; obtain ⟨b1, b2⟩ := hbb
 refine Ev.succ ?_
 simp only [Z55.c, Z55.w]
 refine below_wp hb hp (by omega) fun r q h1 h2 h3 => Ev.ite (fun hc => (h a q ⟨a1, a2⟩ (fun _ => by omega) h3).shift) fun hc => Ev.ite (fun hc => (h b q ⟨b1, b2⟩ (fun _ => by omega) h3).shift) fun hc' =>
  Ev.ite (fun hc => (h a q ⟨a1, a2⟩ (fun _ => by omega) h3).shift) fun hc'' => word_wp hb h3 fun w q' w1 w2 h3' => ?_
 simp only [decide_eq_true_eq] at hc''
 rw [wrap64 (x := b - a) (by omega) (by omega), wrapW]
 have e : (b - a + 1) % 18446744073709551616 = b - a + 1 := by omega
 rw [e]
 have hd : 0 <= Int.fdiv w (2 ^ 1) := by rw [fdivP (by decide)]; omega
 have ht := tmod_in (x := Int.fdiv w (2 ^ 1)) (m := b - a + 1) hd (by omega)
 generalize Int.tmod (Int.fdiv w (2 ^ 1)) (b - a + 1) = t at ht ⊢
 rw [wrap64 (x := t) (by omega) (by omega), wrap64 (x := a + t) (by omega) (by omega)]
 exact Ev.grd (by simp; omega) (h _ _ ⟨by omega, by omega⟩ (fun _ => by omega) h3').shift
theorem off_wp {bs : List Int} {p a b : Int} {R : Nat -> Int -> List Int -> Int -> Prop} (hb : Bytes bs) (hp : Pos bs p) (ha : In64 a) (hbb : In64 b) (hab : b - a < 9223372036854775808)
  (h : ∀ r q, In64 r -> Pos bs q -> Ev (fun n => R n r bs q)) : Ev (fun n => Z57.c n bs p a b (R n)) := by
 refine Ev.succ ?_
 simp only [Z57.c, Z57.w]
 refine once_wp hb hp (by omega) fun o q hq => Ev.ite (fun hc => below_wp hb hq (by omega) fun r q' h1 h2 hq' => ?_) fun hc => near_wp hb hq ha hbb hab fun r q' h1 _ hq' => (h r q' h1 hq').shift
 refine Ev.grd (by simp; omega) (h _ _ ?_ hq').shift
 refine rd_in (P := In64) ?_ (by simp; omega)
 intro x hx
 simp only [List.mem_cons, List.not_mem_nil, or_false] at hx
 rcases hx with rfl | rfl | rfl | rfl
 ·exact wrap64r _
 ·exact wrap64r _
 ·exact ⟨by omega, by omega⟩
 ·exact ⟨by omega, by omega⟩
theorem Wd.set {ws : List Int} (h : Wd ws) {i : Nat} {x : Int} (h0 : 0 <= x) (h1 : x < 18446744073709551616) : Wd (ws.set i x) := by
 intro y hy
 rcases List.mem_or_eq_of_mem_set hy with h' | rfl
 ·exact h y h'
 ·exact ⟨h0, by omega⟩
theorem Wd.rep (n : Nat) : Wd (List.replicate n 0) := by
 intro y hy
 rw [List.eq_of_mem_replicate hy]; omega
theorem Wd.nil : Wd [] := fun y hy => by cases hy
theorem from_lp_wp {l : List Int} (hl : l.length <= 4096) (x7 : List Int) (x8 x9 : Int) : ∀ (m : Nat) (x5 : Int), x5 + m = l.length -> 0 <= x5 -> ∀ (ws : List Int), ws.length = (l.length + 63) / 64 -> Wd ws ->
  ∀ R : Nat -> List Int -> List Int -> Int -> Int -> Prop, (∀ ws', ws'.length = (l.length + 63) / 64 -> Wd ws' -> Ev (fun n => R n ws' x7 x8 x9)) -> Ev (fun n => Z47.l5 n l x7 x8 x9 x5 ws (R n))
 | 0, x5, h, h0, ws, hw, hu, R, hR => by
  refine Ev.succ ?_
  simp only [Z47.l5, Z47.l5.b]
  exact Ev.neg (by simp; omega) (hR ws hw hu).shift
 | m + 1, x5, h, h0, ws, hw, hu, R, hR => by
  refine Ev.succ ?_
  simp only [Z47.l5, Z47.l5.b]
  refine Ev.pos (by simp; omega) ?_
  rw [tdivP h0, tmodP h0, wrap64 (x := x5 / 64) (by omega) (by omega), wrapU (x := x5 % 64) (by omega) (by omega), wrap64 (x := x5 + 1) (by omega) (by omega)]
  refine Ev.grd (by simp; omega) (Ev.grd (by simp; omega) (Ev.grd (by simp; omega) (Ev.grd (by simp; omega) ?_)))
  have i := ibitsU .or (rd ws (Int.toNat (x5 / 64))) (IntKind.wrap .u64 ((IntKind.wrap .u64 (rd l (Int.toNat x5))) * 2 ^ (Nat.min (Int.toNat (x5 % 64)) 64)))
  exact from_lp_wp hl x7 x8 x9 m (x5 + 1) (by omega) (by omega) _ (by rw [List.length_set]; exact hw) (hu.set i.1 i.2) (fun n => R (n + 1)) fun ws' h1 h2 => (hR ws' h1 h2).shift
theorem from_wp {l : List Int} {R : Nat -> Int -> List Int -> Bool -> Prop} (h1 : 1 <= l.length) (h2 : l.length <= 4096) (h : ∀ ws, ws.length = (l.length + 63) / 64 -> Wd ws -> Ev (fun n => R n l.length ws true)) :
  Ev (fun n => Z47.c n l (R n)) := by
 refine Ev.succ ?_
 simp only [Z47.c, Z47.w, Z47.j0]
 refine Ev.pos (by simp; omega) (Ev.neg (by simp; omega) ?_)
 have e : IntKind.wrap .i64 (Int.tdiv (IntKind.wrap .i64 ((l.length : Int) + 63)) 64) = (((l.length + 63) / 64 : Nat) : Int) := by
  rw [wrap64 (x := (l.length : Int) + 63) (by omega) (by omega), tdivP (by omega), wrap64 (by omega) (by omega)]; omega
 rw [e]
 refine Ev.grd (by simp; omega) ?_
 rw [Int.toNat_natCast]
 exact from_lp_wp h2 _ _ _ l.length 0 (by omega) (by omega) _ (by simp) (Wd.rep _) (fun n y22 y23 y24 y25 => R (n + 1) y25 y22 true) fun ws h3 h4 => (h ws h3 h4).shift
theorem bits_lp_wp {x10 x11 x12 x17 x18 : Int} {x15 x16 : List Int} (h10 : x10 <= 4096) : ∀ (m : Nat) (x13 : Int), x13 + m = x10 -> 0 <= x13 -> ∀ l : List Int, (l.length : Int) = x13 ->
  ∀ R : Nat -> List Int -> List Int -> List Int -> Int -> Int -> Prop, (∀ l' : List Int, (l'.length : Int) = x10 -> Ev (fun n => R n l' x15 x16 x17 x18)) -> Ev (fun n => Z53.l5 n x10 x11 x12 x15 x16 x17 x18 x13 l (R n))
 | 0, x13, h, h0, l, hl, R, hR => by
  refine Ev.succ ?_
  simp only [Z53.l5, Z53.l5.b]
  exact Ev.neg (by simp; omega) (hR l (by omega)).shift
 | m + 1, x13, h, h0, l, hl, R, hR => by
  have e : ∀ v : Int, Ev (fun n => Z53.l5 n x10 x11 x12 x15 x16 x17 x18 (x13 + 1) (l ++ [v]) (R (n + 1))) :=
   fun v => bits_lp_wp h10 m (x13 + 1) (by omega) (by omega) (l ++ [v]) (by simp; omega) (fun n => R (n + 1)) fun l' h' => (hR l' h').shift
  refine Ev.succ ?_
  simp only [Z53.l5, Z53.l5.b, Z53.j4]
  rw [wrap64 (x := x13 * 7) (by omega) (by omega), tmodP (by omega), wrapU (by omega) (by omega), wrap64 (x := x13 + 1) (by omega) (by omega)]
  refine Ev.pos (by simp; omega) (Ev.grd (by simp; omega) (Ev.ite (fun _ => Ev.ite (fun _ => ?_) fun _ => ?_) fun _ => Ev.ite (fun _ => ?_) fun _ => ?_))
  all_goals exact Ev.grd (by simp; omega) (e _)
theorem bits_wp {bs : List Int} {p m : Int} {R : Nat -> Int -> List Int -> List Int -> Int -> Prop} (hb : Bytes bs) (hp : Pos bs p) (h1 : 1 <= m) (h2 : m <= 4096)
  (h : ∀ ws q, (ws.length : Int) = (m + 63) / 64 -> Wd ws -> Pos bs q -> Ev (fun n => R n m ws bs q)) : Ev (fun n => Z53.c n bs p m (R n)) := by
 refine Ev.succ ?_
 simp only [Z53.c, Z53.w]
 refine word_wp hb hp fun w q _ _ hq => below_wp hb hq (by omega) fun r q' _ _ hq' => bits_lp_wp h2 m.toNat 0 (by omega) (by omega) [] rfl (fun n y33 y34 y35 y36 y37 => Z47.c n y33 (fun r38 r39 r40 => R (n + 1) r38 r39 y35 y36)) fun l hl => ?_
 refine from_wp (by omega) (by omega) fun ws h3 h4 => ?_
 rw [hl]
 exact (h ws q' (by omega) h4 hq').shift
end Go.Vsi
end

section
set_option linter.unusedVariables false
set_option linter.unusedSimpArgs false
set_option synthInstance.maxSize 4096
namespace Go.Vsi
def DBar (b : tBar) : Prop := Wd b.2.2.2 /\ b.2.2.2.length <= 64
def DWs (l : List Int) : Prop := ∀ x ∈ l, 1 <= x /\ x <= 200
theorem DBar.plain {a b c : Int} : DBar (a, b, c, ([] : List Int)) := ⟨Wd.nil, by simp⟩
theorem DWs.app {l : List Int} {x : Int} (h : DWs l) (h1 : 1 <= x) (h2 : x <= 200) : DWs (l ++ [x]) := fun y hy => by
 rcases List.mem_append.mp hy with hy | hy
 ·exact h y hy
 ·rw [List.mem_singleton.mp hy]; exact ⟨h1, h2⟩
theorem DWs.set {l : List Int} {i : Nat} {x : Int} (h : DWs l) (h1 : 1 <= x) (h2 : x <= 200) : DWs (l.set i x) := fun y hy => by
 rcases List.mem_or_eq_of_mem_set hy with hy | rfl
 ·exact h y hy
 ·exact ⟨h1, h2⟩
theorem dbar_app {l : List tBar} {b : tBar} (h : ∀ y ∈ l, DBar y) (hb : DBar b) : ∀ y ∈ l ++ [b], DBar y := fun y hy => by
 rcases List.mem_append.mp hy with hy | hy
 ·exact h y hy
 ·rw [List.mem_singleton.mp hy]; exact hb
theorem gw_wp {bs : List Int} (hb : Bytes bs) {c : Int} {u : List tBar} {v : List Int} {t : List tBar} (hc : c <= 7) : ∀ (m : Nat) (i : Int), i + m = c -> 0 <= i ->
  ∀ (l : List Int) (w p : Int), (l.length : Int) = i -> DWs l -> 1 <= w -> w <= 3 -> Pos bs p -> ∀ R : Nat -> Int -> List tBar -> List Int -> List tBar -> List Int -> List Int -> Int -> Prop,
  (∀ l' q, (l'.length : Int) = c -> DWs l' -> Pos bs q -> Ev (fun n => R n c u v t l' bs q)) ->
  Ev (fun n => Z54.l5 n c u v t w i l bs p (R n))
 | 0, i, h, h0, l, w, p, hl, hd, w1, w2, hp, R, hR => by
  refine Ev.succ ?_
  simp only [Z54.l5, Z54.l5.b]
  exact Ev.neg (by simp; omega) (hR l p (by omega) hd hp).shift
 | m + 1, i, h, h0, l, w, p, hl, hd, w1, w2, hp, R, hR => by
  have e : ∀ (w' : Int) (l' : List Int) (q : Int), (l'.length : Int) = i + 1 -> DWs l' -> 1 <= w' -> w' <= 3 -> Pos bs q -> Ev (fun n => Z54.l5 n c u v t w' (i + 1) l' bs q (R (n + 1))) :=
   fun w' l' q g1 g2 g3 g4 g5 => gw_wp hb hc m (i + 1) (by omega) (by omega) l' w' q g1 g2 g3 g4 g5 (fun n => R (n + 1)) fun l' q g1 g2 g3 => (hR l' q g1 g2 g3).shift
  have j : ∀ (w' q : Int), 1 <= w' -> w' <= 3 -> Pos bs q -> Ev (fun n => Z54.j3 (fun x78q x80q x84q x85q x86q => Z54.l5 n c u v t x78q x80q x84q x85q x86q (R (n + 1))) n i l w' bs q) := by
   intro w' q g1 g2 g3
   simp only [Z54.j3, and_self]
   rw [wrap64 (x := i + 1) (by omega) (by omega)]
   refine Ev.grd (by simp; omega) (once_wp hb g3 (by omega) fun o q' hq => Ev.ite (fun _ => wide_wp hb hq fun x q2 x1 x2 hq2 => ?_) fun _ => ?_)
   ·exact Ev.grd (by simp; omega) (e w' _ q2 (by simp; omega) ((hd.app g1 (by omega)).set x1 x2) g1 g2 hq2)
   ·exact e w' _ q' (by simp; omega) (hd.app g1 (by omega)) g1 g2 hq
  refine Ev.succ ?_
  simp only [Z54.l5, Z54.l5.b]
  refine Ev.pos (by simp; omega) (once_wp hb hp (by omega) fun o q hq => Ev.ite (fun _ => below_wp hb hq (by omega) fun r q' r1 r2 hq' => ?_) fun _ => ?_)
  ·rw [wrap64 (x := 1 + r) (by omega) (by omega)]
   exact j _ _ (by omega) (by omega) hq'
  ·exact j _ _ w1 w2 hq
theorem gb_wp {bs : List Int} (hb : Bytes bs) {c : Int} {u : List Int} {v : List tBar} {l : List Int} (hc : 1 <= c) (hl : (l.length : Int) = c) (hd : DWs l) : ∀ (m : Nat) (k : Int), k = m -> k <= 24 ->
  ∀ (s : List tBar) (p : Int), s.length + m <= 24 -> (∀ b ∈ s, DBar b) -> Pos bs p -> ∀ R : Nat -> Int -> List Int -> List tBar -> List Int -> List tBar -> List Int -> Int -> Prop,
  (∀ s' q, s'.length <= 24 -> (∀ b ∈ s', DBar b) -> Pos bs q -> Ev (fun n => R n c u v l s' bs q)) ->
  Ev (fun n => Z54.l13 n c u v l k s bs p (R n))
 | 0, k, h, h0, s, p, hs, hd', hp, R, hR => by
  refine Ev.succ ?_
  simp only [Z54.l13, Z54.l13.b]
  exact Ev.neg (by simp; omega) (hR s p (by omega) hd' hp).shift
 | m + 1, k, h, h0, s, p, hs, hd', hp, R, hR => by
  have e : ∀ (s' : List tBar) (q : Int), s'.length <= s.length + 1 -> (∀ b ∈ s', DBar b) -> Pos bs q -> Ev (fun n => Z54.l13 n c u v l (k - 1) s' bs q (R (n + 1))) :=
   fun s' q g1 g2 g3 => gb_wp hb hc hl hd m (k - 1) (by omega) (by omega) s' q (by omega) g2 g3 (fun n => R (n + 1)) fun s' q g1 g2 g3 => (hR s' q g1 g2 g3).shift
  refine Ev.succ ?_
  simp only [Z54.l13, Z54.l13.b, Z54.j7, and_self]
  rw [wrap64 (x := k - 1) (by omega) (by omega)]
  refine Ev.pos (by simp; omega) (below_wp hb hp hc fun a q a1 a2 hq => below_wp hb hq hc fun b q2 b1 b2 hq2 => once_wp hb hq2 (by omega) fun o q3 hq3 => Ev.ite (fun _ => ?_) fun _ => Ev.ite (fun _ => ?_) fun _ => ?_)
  ·have hr := rd_in (P := fun x => 1 <= x /\ x <= 200) hd (i := a.toNat) (by omega)
   refine Ev.grd (by simp; omega) (bits_wp hb hq3 hr.1 (by omega) fun ws q4 w1 w2 hq4 => Ev.grd (by simp; omega) ?_)
   exact e _ q4 (by simp) (dbar_app hd' ⟨w2, by show ws.length <= _; omega⟩) hq4
  ·refine Ev.grd (by simp; omega) (Ev.grd (by simp; omega) (Ev.ite (fun _ => Ev.grd (by simp; omega) ?_) fun _ => ?_))
   ·exact e _ q3 (by simp) (dbar_app hd' DBar.plain) hq3
   ·exact e _ q3 (by omega) hd' hq3
  ·exact Ev.neg (by simp) (e _ q3 (by omega) hd' hq3)
theorem gr_wp {x348 : List Int} {x349 x350 : List tBar} {x351 : List Int} {x352 : Int} : ∀ (m : Nat) (i : Int) (l : List Int), i + m = l.length -> 0 <= i -> l.length <= 201 -> ∀ R : Nat -> List Int -> List Int -> List tBar -> List tBar -> List Int -> Int -> Prop,
  (∀ l', l'.length = l.length -> Ev (fun n => R n l' x348 x349 x350 x351 x352)) -> Ev (fun n => Z54.l29 n x348 x349 x350 x351 x352 i l (R n))
 | 0, i, l, h, h0, hl, R, hR => by
  refine Ev.succ ?_
  simp only [Z54.l29, Z54.l29.b]
  exact Ev.neg (by simp; omega) (hR l rfl).shift
 | m + 1, i, l, h, h0, hl, R, hR => by
  refine Ev.succ ?_
  simp only [Z54.l29, Z54.l29.b]
  rw [wrap64 (x := i + 1) (by omega) (by omega)]
  refine Ev.pos (by simp; omega) (Ev.grd (by simp; omega) ?_)
  exact gr_wp m (i + 1) (l.set i.toNat 1) (by simp; omega) (by omega) (by simp; omega) (fun n => R (n + 1)) fun l' h' => (hR l' (by simpa using h')).shift
theorem gm_wp {bs : List Int} (hb : Bytes bs) {c : Int} {u : List Int} {v : List tBar} {l : List Int} (hl : (l.length : Int) = c) : ∀ (m : Nat) (s : List tBar) (p : Int), s.length + m = 1001 -> (∀ b ∈ s, DBar b) -> Pos bs p ->
  ∀ R : Nat -> List Int -> List tBar -> List Int -> List tBar -> List Int -> Int -> Prop,
  (∀ s' q, s'.length <= 1001 -> (∀ b ∈ s', DBar b) -> Pos bs q -> Ev (fun n => R n u v l s' bs q)) ->
  Ev (fun n => Z54.l34 n c u v l s bs p (R n))
 | m, s, p, hs, hd', hp, R, hR => by
  refine Ev.succ ?_
  simp only [Z54.l34, Z54.l34.b, Z54.j9, and_self]
  refine below_wp hb hp (by omega) fun r q r1 r2 hq => ?_
  rw [wrap64 (x := 1000 + r) (by omega) (by omega)]
  have x := (hR s q (by omega) hd' hq).shift
  refine Ev.ite (fun h1 => Ev.ite (fun h2 => ?_) fun _ => x) fun _ => x
  simp only [decide_eq_true_eq] at h1 h2
  refine Ev.grd (by simp; omega) (Ev.grd (by simp; omega) (Ev.ite (fun _ => Ev.grd (by simp; omega) ?_) fun _ => x))
  match m, hs with
  | 0, hs => omega
  | m + 1, hs => exact gm_wp hb hl m _ q (by simp; omega) (dbar_app hd' DBar.plain) hq (fun n => R (n + 1)) fun s' q g1 g2 g3 => (hR s' q g1 g2 g3).shift
theorem graph_wp {bs : List Int} {p : Int} {R : Nat -> List Int -> List tBar -> List Int -> Int -> Prop} (hb : Bytes bs) (hp : Pos bs p)
  (h : ∀ w l q, 1 <= w.length -> w.length <= 201 -> l.length <= 1001 -> (∀ b ∈ l, DBar b) -> Pos bs q -> Ev (fun n => R n w l bs q)) :
  Ev (fun n => Z54.c n bs p (R n)) := by
 have hl := hb.2
 refine Ev.succ ?_
 simp only [Z54.c, Z54.w, and_self]
 refine below_wp hb hp (by omega) fun r q r1 r2 hq => ?_
 rw [wrap64 (x := 1 + r) (by omega) (by omega), tdivP (by omega), wrap64 (x := (bs.length : Int) / 6) (by omega) (by omega), wrap64 (x := 2 + (bs.length : Int) / 6) (by omega) (by omega)]
 have m7 : ∀ x : Int, 2 <= x -> 1 <= (if x < 7 then x else 7) /\ (if x < 7 then x else 7) <= 7 := fun x _ => by split <;> omega
 have m24 : ∀ x : Int, 2 <= x -> 1 <= (if x < 24 then x else 24) /\ (if x < 24 then x else 24) <= 24 := fun x _ => by split <;> omega
 have a7 := m7 (2 + (bs.length : Int) / 6) (by omega)
 have a24 := m24 (2 + (bs.length : Int) / 3) (by omega)
 refine below_wp hb hq a7.1 fun c q2 c1 c2 hq2 => ?_
 rw [wrap64 (x := 1 + c) (by omega) (by omega)]
 refine gw_wp hb (by omega) (1 + c).toNat 0 (by omega) (by omega) [] _ _ rfl (fun x hx => by cases hx) (by omega) (by omega) hq2 (fun n y152 y153 y154 y155 y156 y157 y158 => _) fun w q3 w1 w2 hq3 => ?_
 rw [tdivP (by omega), wrap64 (x := (bs.length : Int) / 3) (by omega) (by omega), wrap64 (x := 2 + (bs.length : Int) / 3) (by omega) (by omega)]
 refine below_wp hb hq3 (by exact a24.1) fun k q4 k1 k2 hq4 => ?_
 refine gb_wp hb (by omega) w1 w2 k.toNat k (by omega) (by omega) [] q4 (by simp; omega) (fun x hx => by cases hx) hq4 (fun n y298 y299 y300 y301 y302 y303 y304 => _) fun l q5 l1 l2 hq5 => ?_
 refine below_wp hb hq5 (by omega) fun z q6 z1 z2 hq6 => Ev.ite (fun _ => ?_) fun _ => Ev.ite (fun _ => ?_) fun _ => Ev.ite (fun _ => ?_) fun _ => Ev.ite (fun _ => ?_) fun _ => ?_
 ·rw [wrap64 (x := 1 + c - 1) (by omega) (by omega)]
  refine off_wp hb hq6 ⟨by omega, by omega⟩ ⟨by omega, by omega⟩ (by omega) fun x q7 _ hq7 => off_wp hb hq7 ⟨by omega, by omega⟩ ⟨by omega, by omega⟩ (by omega) fun y q8 _ hq8 => Ev.grd (by simp; omega) ?_
  exact (h w _ q8 (by omega) (by omega) (by simp; omega) (dbar_app l2 DBar.plain) hq8).shift
 ·refine off_wp hb hq6 ⟨by omega, by omega⟩ ⟨by omega, by omega⟩ (by omega) fun x q7 _ hq7 => Ev.grd (by simp; omega) ?_
  exact (h _ l q7 (by simp; omega) (by simp; omega) (by omega) l2 hq7).shift
 ·refine below_wp hb hq6 (by omega) fun x q7 x1 x2 hq7 => ?_
  rw [wrap64 (x := 200 + x) (by omega) (by omega)]
  refine Ev.grd (by simp; omega) (gr_wp (200 + x).toNat 0 _ (by rw [List.length_replicate]; omega) (by omega) (by rw [List.length_replicate]; omega) (fun n y524 y525 y526 y527 y528 y529 => _) fun w' e => ?_)
  simp only [List.length_replicate] at e
  exact (h w' [] q7 (by omega) (by omega) (by simp) (fun x hx => by cases hx) hq7).shift
 ·refine gm_wp hb w1 (1001 - l.length) l q6 (by omega) l2 hq6 (fun n y530 y531 y532 y533 y534 y535 => _) fun s' q7 s1 s2 hq7 => ?_
  exact (h w s' q7 (by omega) (by omega) s1 s2 hq7).shift
 ·exact (h w l q6 (by omega) (by omega) (by omega) l2 hq6).shift
end Go.Vsi
end

section
set_option linter.unusedVariables false
set_option linter.unusedSimpArgs false
set_option synthInstance.maxSize 4096
namespace Go.Vsi
theorem drawColour_wp {bs : List Int} {R : Nat -> List Int -> List tBar -> Int -> Prop} (hb : Bytes bs) (h : ∀ w l v, 1 <= w.length -> w.length <= 201 -> l.length <= 1001 -> (∀ b ∈ l, DBar b) -> Ev (fun n => R n w l v)) :
  Ev (fun n => Z40.c n bs (R n)) := by
 refine Ev.succ ?_
 simp only [Z40.c, Z40.w, and_self]
 refine open_wp (graph_wp hb ⟨by omega, by omega⟩ fun w l q h1 h2 h3 h4 hq => once_wp hb hq (by omega) fun o q2 hq2 => Ev.ite (fun _ => ?_) fun _ => ?_)
 ·exact off_wp hb hq2 ⟨by omega, by omega⟩ ⟨by omega, by omega⟩ (by omega) fun v q3 _ _ => (h w l v h1 h2 h3 h4).shift
 ·exact off_wp hb hq2 ⟨by omega, by omega⟩ ⟨by omega, by omega⟩ (by omega) fun v q3 _ _ => (h w l v h1 h2 h3 h4).shift
theorem colour_tells {w : List Int} {l : List tBar} {most : Int} (hy : ∀ b ∈ l, b.2.2.2.length <= 1099511627776) :
  (((colourP false w l most).2.2 = 0 /\ colourOk w l (colourP false w l most).1 = true /\ (colourP false w l most).2.1 <= most /\ (colourP false w l most).1.length <= 200 /\ ∀ z ∈ (colourP false w l most).1, z.2.length <= 64) \/
   ((colourP false w l most).2.2 ≠ 0 /\ (colourP false w l most).1 = [] /\ ((colourP false w l most).2.2 = 2 -> graphOk w l = true /\ ∀ ws, ¬ Sol w l ws))) := by
 unfold colourP
 by_cases h : graphOk w l = true /\ 0 <= most /\ most <= 20000
 rotate_left
 ·rw [if_neg h]; exact .inr ⟨by decide, rfl, fun e => absurd e (by decide)⟩
 rw [if_pos h]
 have hG := gok_of hy h.1 h.2
 have hk := searchP_kept (s := false) (l := l) (most := most) (rdW hG.hW) (narrowP l w 0) (List.replicate w.length (0, [])) 0 has_zero (by omega) h.2.1
 have hgv := searchP_gives (s := false) (l := l) (most := most) hG.hW (narrowP l w 0) (List.replicate w.length (0, [])) 0 narrow_nodup (fun v hv => ⟨(hG.hn v hv).1, (hG.hn v hv).2.1⟩) has_zero (by omega) h.2.1
 have hi := searchP_inv (s := false) (l := l) (most := most) hG.hg hG.hW (narrowP l w 0) hG.hn (List.replicate w.length (0, [])) 0 InvC.zero
 have hs := fun ws (hS : Sol w l ws) => searchP_sol (s := false) (most := most) hS hG.hg hG.hW (narrowP l w 0) hG.hn (List.replicate w.length (0, [])) 0 (fun i => .inl rd_zero)
 generalize searchP false w l most (narrowP l w 0) (List.replicate w.length (0, [])) 0 = r at hk hgv hi hs
 obtain ⟨k1, k2, k3, k4⟩ := hk
 simp only []
 by_cases c2 : r.1 = 2
 ·rw [if_pos c2]; exact .inr ⟨by simp, rfl, fun _ => ⟨h.1, fun ws hS => hs ws hS c2⟩⟩
 rw [if_neg c2]
 by_cases c3 : r.1 = 3
 ·rw [if_pos c3]; exact .inr ⟨by simp, rfl, fun e => by simp at e⟩
 rw [if_neg c3]
 have c0 : r.1 = 0 := by omega
 obtain ⟨f1, f2⟩ := fill_inv hG.hl hG.hg hG.hW w 0 r.2.1 (by simp) (by omega) hi (fun v h0 h1 h2 h3 => hgv.2 c0 v (mem_narrow.2 ⟨h0, by omega, by rw [Int.sub_zero]; exact h2, by rw [Int.sub_zero]; exact h3⟩)) (fun i hi => by simp at hi)
 have hl := hG.hw
 exact .inl ⟨rfl, colour_right h.1 hG.hg f1 f2, k3, by show (fillP l w 0 r.2.1).length <= 200; rw [f1.has.1]; exact hl, f1.has.2⟩
def sumW : List Int -> Int
 | [] => 0
 | y :: r => y + sumW r
theorem sumW_le : ∀ {ys : List Int}, (∀ y ∈ ys, 1 <= y /\ y <= 4096) -> (ys.length : Int) <= sumW ys /\ sumW ys <= 4096 * ys.length
 | [], _ => by simp [sumW]
 | y :: ys, h => by
  have h1 := h y List.mem_cons_self
  have h2 := sumW_le (ys := ys) (fun z hz => h z (List.mem_cons_of_mem _ hz))
  rw [sumW, List.length_cons]; omega
theorem sumW_mem : ∀ {ys : List Int} {z : Int}, (∀ y ∈ ys, 1 <= y /\ y <= 4096) -> z ∈ ys -> z <= sumW ys
 | y :: ys, z, h, hz => by
  have h1 := h y List.mem_cons_self
  have hr := fun z hz => h z (List.mem_cons_of_mem y hz)
  have h2 := sumW_le hr
  rw [sumW]
  rcases List.mem_cons.1 hz with rfl | hz
  ·omega
  ·have := sumW_mem hr hz; omega
theorem sum_lp {w : List Int} {l : List tBar} (hw : w.length <= 200) (hW : ∀ y ∈ w, 1 <= y /\ y <= 4096) : ∀ (ys : List Int) (x s : Int), w.drop x.toNat = ys -> 0 <= x -> 0 <= s -> s + 4096 * ys.length <= 1000000 -> (∀ y ∈ ys, 1 <= y /\ y <= 4096) ->
  ∀ Kx : Nat -> Int -> List Int -> List tBar -> Prop, Ev (fun n => Kx n (s + sumW ys) w l) -> Ev (fun n => laws_FnColoured.l14 n w l s x (Kx n))
 | [], x, s, h, h0, hs, hb, hy, Kx, hx => by
  have := drop_nil h h0
  refine Ev.succ ?_
  simp only [laws_FnColoured.l14, laws_FnColoured.l14.b]
  rw [sumW, Int.add_zero] at hx
  exact Ev.neg (by simp; omega) hx.shift
 | y :: ys, x, s, h, h0, hs, hb, hy, Kx, hx => by
  obtain ⟨e1, e2, e3⟩ := drop_cons h h0
  have h1 := hy y List.mem_cons_self
  rw [List.length_cons] at hb
  refine Ev.succ ?_
  simp only [laws_FnColoured.l14, laws_FnColoured.l14.b]
  rw [e2, wrap64 (x := x + 1) (by omega) (by omega), wrap64 (x := s + y) (by omega) (by omega)]
  refine Ev.pos (by simp; omega) (Ev.grd (by simp; omega) ?_)
  exact sum_lp hw hW ys (x + 1) (s + y) e3 (by omega) (by omega) (by omega) (fun z hz => hy z (List.mem_cons_of_mem _ hz)) (fun n => Kx (n + 1)) (by rw [Int.add_assoc]; exact hx.shift)
theorem try_lp {w : List Int} {l : List tBar} {x88 x89 : Int} (hw : w.length <= 200) (hW : ∀ y ∈ w, 1 <= y /\ y <= 8) : ∀ (m : Nat) (x left : Int) (t : List tBits), x + m = w.length -> 0 <= x -> 0 <= left -> left <= 256 -> (t.length : Int) = x -> (∀ i : Nat, i < t.length -> ∃ k : Nat, k < 2 ^ min (rd w i).toNat 63 /\ rd t i = wk (rd w i) k) ->
  ∀ Kx : Nat -> Int -> Int -> List tBits -> List Int -> List tBar -> Prop, (∀ t : List tBits, t.length = w.length -> (∀ i : Nat, i < w.length -> ∃ k : Nat, k < 2 ^ min (rd w i).toNat 63 /\ rd t i = wk (rd w i) k) -> Ev (fun n => Kx n x88 x89 t w l)) ->
  Ev (fun n => laws_FnColoured.l23 n x88 x89 w l left x t (Kx n))
 | 0, x, left, t, h, h0, g0, g1, ht, hk, Kx, hx => by
  refine Ev.succ ?_
  simp only [laws_FnColoured.l23, laws_FnColoured.l23.b]
  exact Ev.neg (by simp; omega) (hx t (by omega) (fun i hi => hk i (by omega))).shift
 | m + 1, x, left, t, h, h0, g0, g1, ht, hk, Kx, hx => by
  have hy := hW _ (rd_mem (l := w) (i := x.toNat) (by omega))
  obtain ⟨u, hu⟩ : ∃ u : Nat, rd w x.toNat = u := ⟨(rd w x.toNat).toNat, by omega⟩
  rw [hu] at hy
  have hp := pow_le (w := (u : Int)) (by omega) (by omega)
  refine Ev.succ ?_
  simp only [laws_FnColoured.l23, laws_FnColoured.l23.b, laws_FnColoured.j3, and_self]
  rw [hu, wrapU (x := (u : Int)) (by omega) (by omega), shl1 (by omega) (by omega), wrap64 (x := x + 1) (by omega) (by omega)]
  have ep : (2 : Int) ^ (u : Int).toNat = ((2 ^ u : Nat) : Int) := by rw [Int.toNat_natCast]; norm_cast
  rw [ep] at hp ⊢
  have h1 : 1 <= 2 ^ u := by omega
  generalize hz : 2 ^ u = z at hp h1
  have ht1 := tmod_in (x := left) (m := (z : Int)) g0 (by omega)
  obtain ⟨k, hkk⟩ : ∃ k : Nat, Int.tmod left (z : Int) = k := ⟨(Int.tmod left z).toNat, by omega⟩
  rw [hkk] at ht1
  have hd0 : 0 <= left / (z : Int) := Int.ediv_nonneg g0 (by omega)
  have hd1 : left / (z : Int) <= left := Int.ediv_le_self _ g0
  refine Ev.pos (by simp; omega) (Ev.grd (by simp; omega) (Ev.grd (by simp) (Ev.grd (by simp; omega) (Ev.grd (by simp; omega) ?_))))
  rw [hkk, tdivP g0, wrap64 (x := left / (z : Int)) (by omega) (by omega)]
  have hkz : k < 2 ^ min u 63 := by rw [Nat.min_eq_left (by omega), hz]; omega
  refine bitsOfS_wp (by omega) (by omega) hkz _ ?_
  refine Ev.grd (by simp; omega) (Ev.grd (by simp; omega) ?_)
  rw [<- wk_N]
  refine try_lp hw hW m (x + 1) _ _ (by omega) (by omega) hd0 (by omega) (by simp; omega) (fun i hi => ?_) (fun n => Kx (n + 1)) fun t h1 h2 => (hx t h1 h2).shift
  by_cases e : i = t.length
  ·refine ⟨k, ?_, ?_⟩
   ·rw [e, show t.length = x.toNat from by omega, hu, Int.toNat_natCast]; exact hkz
   ·rw [e, show t.length = x.toNat from by omega, hu]
    have := rd_at (a := t) (z := []) (v := wk u k) (k := x) ht.symm
    exact this
  ·simp only [List.length_append, List.length_cons, List.length_nil] at hi
   obtain ⟨k', k1, k2⟩ := hk i (by omega)
   refine ⟨k', k1, ?_⟩
   rw [<- k2, rd, rd, List.getD_eq_getElem?_getD, List.getD_eq_getElem?_getD, List.getElem?_append_left (by omega)]
theorem none_lp {w : List Int} {l : List tBar} (hgo : graphOk w l = true) (hy : ∀ b ∈ l, b.2.2.2.length <= 1099511627776) (hS : ∀ ws, ¬ Sol w l ws) (h8 : sumW w <= 8) (h1 : 1 <= sumW w) : ∀ (m : Nat) (x : Int), x + m = 2 ^ (sumW w).toNat -> 0 <= x ->
  ∀ (Kx : Nat -> Prop) (Kr : Nat -> Bool -> Prop), Ev Kx -> Ev (fun n => laws_FnColoured.l18 n (sumW w) x w l (Kx n) (Kr n))
 | 0, x, h, h0, Kx, Kr, hx => by
  refine Ev.succ ?_
  simp only [laws_FnColoured.l18, laws_FnColoured.l18.b]
  rw [wrapU (x := sumW w) (by omega) (by omega), shl1 h1 (by omega)]
  exact Ev.grd (by simp; omega) (Ev.neg (by simp; omega) hx.shift)
 | m + 1, x, h, h0, Kx, Kr, hx => by
  have hp := pow_le (w := sumW w) h1 (by omega)
  have hp8 : (2 : Int) ^ (sumW w).toNat <= 256 := by
   have e : ∃ m : Nat, m <= 8 /\ (sumW w).toNat = m := ⟨(sumW w).toNat, by omega, rfl⟩
   obtain ⟨m, h1, e⟩ := e
   rw [e]
   match m, h1 with
   | 0, _ | 1, _ | 2, _ | 3, _ | 4, _ | 5, _ | 6, _ | 7, _ | 8, _ => decide
  have hW := graphOk_w hgo
  have hle := graphOk_le hgo
  have hg := inG_of hgo hy
  refine Ev.succ ?_
  simp only [laws_FnColoured.l18, laws_FnColoured.l18.b, laws_FnColoured.j5]
  rw [wrapU (x := sumW w) (by omega) (by omega), shl1 h1 (by omega)]
  refine Ev.grd (by simp; omega) (Ev.pos (by simp; omega) (Ev.pos (by simp; omega) ?_))
  refine try_lp hle.1 (fun y hy => by have := hW y hy; have := sumW_mem hW hy; omega) w.length 0 x [] (by omega) (by omega) h0 (by omega) rfl (fun i hi => by simp at hi) (fun n y179 y180 y181 y182 y183 => _) fun t t1 t2 => ?_
  have hz : ∀ z ∈ t, z.2.length <= 1099511627776 := fun z hz => by
   obtain ⟨i, hi, rfl⟩ := List.getElem_of_mem hz
   obtain ⟨k, k1, k2⟩ := t2 i (by omega)
   have hwi := hW _ (rd_mem (l := w) (i := i) (by omega))
   have e : rd t i = t[i] := by simp [rd, List.getD_eq_getElem?_getD, hi]
   rw [<- e, k2]
   have := wk_len (w := rd w i) (k := k) (by omega) hwi.2; omega
  rw [colourOk_ev (by omega) hz]
  have hno : colourOk w l t = false := by
   rw [Bool.eq_false_iff]
   intro hc
   unfold colourOk at hc
   rw [Bool.and_eq_true, noneSame_of] at hc
   refine hS t ⟨fun i hi => t2 i hi, fun y hy => ⟨fun c e => ?_, fun c e => ?_⟩⟩
   ·have hc2 := hc.2 y hy
    have := (hg y hy).2.2.1
    rw [otherOf, if_pos (by omega)] at hc2; exact hc2 e
   ·have hc2 := hc.2 y hy
    rw [otherOf, if_neg (by omega)] at hc2; exact hc2 e
  rw [hno]
  refine Ev.neg (by simp) ?_
  rw [wrap64 (x := x + 1) (by omega) (by omega)]
  exact none_lp hgo hy hS h8 h1 m (x + 1) (by omega) (by omega) (fun n => Kx (n + 1)) (fun n => Kr (n + 1)) hx.shift
theorem bytes_gd {code : List Int} (hc : Gd (.sl 0 (.int .u8)) code) (h : ¬ (code.length : Int) > 1048576) : Bytes code := by
 refine ⟨fun x hx => ?_, by omega⟩
 have := hc.2 x hx
 have h1 : (0 : Int) <= x := this.1
 have h2 : x <= (255 : Int) := this.2
 omega
theorem coloured_law {a1 : List Int} (hg : Gd (.sl 0 (.int .u8)) a1) (K : Bool -> Prop) : True /\ (K true -> Ev (fun n => laws_FnColoured.c n a1 K)) := by
 refine ⟨trivial, fun hK => ?_⟩
 refine Ev.succ ?_
 simp only [laws_FnColoured.c, laws_FnColoured.w]
 refine big_wp (Ev.ite (fun _ => Ev.const hK) fun hb => ?_)
 have hB := bytes_gd hg (by simpa using hb)
 refine drawColour_wp hB fun w l v h1 h2 h3 h4 => ?_
 have hy : ∀ b ∈ l, b.2.2.2.length <= 1099511627776 := fun b hb => by have := (h4 b hb).2; omega
 have hd : ∀ b ∈ l, Wd b.2.2.2 := fun b hb => (h4 b hb).1
 refine colourS_wp hd hy _ ?_
 rw [colour_one]
 refine colourI_wp hy _ ?_
 have ht := colour_tells (w := w) (l := l) (most := v) hy
 generalize colourP false w l v = r at ht
 refine Ev.pos (by simp) (Ev.neg (by simp) ?_)
 simp only [laws_FnColoured.j6]
 rcases ht with ⟨t1, t2, t3, t4, t5⟩ | ⟨t1, t2, t3⟩
 ·refine Ev.pos (by simpa using t1) ?_
  rw [colourOk_ev (by omega) (fun z hz => by have := t5 z hz; omega), t2]
  refine Ev.pos rfl ?_
  rw [decide_eq_true t3]; exact Ev.const hK
 ·refine Ev.neg (by simpa using t1) ?_
  by_cases c2 : r.2.2 = 2
  rotate_left
  ·refine Ev.pos (by simpa using c2) ?_
   rw [t2]; exact Ev.const hK
  refine Ev.neg (by simpa using c2) ?_
  obtain ⟨hgo, hS⟩ := t3 c2
  have hle := graphOk_le hgo
  have hW := graphOk_w hgo
  have hs := sumW_le hW
  refine sum_lp hle.1 hW w 0 0 (by simp) (by omega) (by omega) (by omega) hW (fun n y35 y36 y37 => _) ?_
  rw [Int.zero_add]
  by_cases h8 : sumW w <= 8
  ·exact none_lp hgo hy hS h8 (by omega) (2 ^ (sumW w).toNat) 0 (by rw [Int.zero_add]; norm_cast) (by omega) (fun n => K true) (fun n => K) (Ev.const hK)
  ·refine Ev.succ ?_
   simp only [laws_FnColoured.l18, laws_FnColoured.l18.b]
   rw [wrapU (x := sumW w) (by omega) (by omega)]
   exact Ev.grd (by simp; omega) (Ev.ite (fun _ => Ev.neg (by simp; omega) (Ev.const hK)) fun _ => Ev.const hK)
end Go.Vsi
end
