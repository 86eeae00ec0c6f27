/- What the told functions answer. No statement is proved here. -/
import Derived.Test.YtligefedbeibiaaA1

section
set_option linter.unusedVariables false
namespace Go.Vsi
def Ev (P : Nat -> Prop) : Prop := ∃ N, ∀ n, N <= n -> P n
theorem Ev.succ {P : Nat -> Prop} : Ev (fun n => P (n + 1)) -> Ev P
 | ⟨N, h⟩ => ⟨N + 1, fun n hn => by obtain ⟨m, rfl⟩ : ∃ m, n = m + 1 := ⟨n - 1, by omega⟩; exact h m (by omega)⟩
theorem Ev.shift {P : Nat -> Prop} : Ev P -> Ev (fun n => P (n + 1))
 | ⟨N, h⟩ => ⟨N, fun n hn => h (n + 1) (by omega)⟩
theorem Ev.and {P Q : Nat -> Prop} : Ev P -> Ev Q -> Ev (fun n => P n /\ Q n)
 | ⟨N, h⟩, ⟨M, g⟩ => ⟨max N M, fun n hn => ⟨h n (by omega), g n (by omega)⟩⟩
theorem Ev.const {p : Prop} (h : p) : Ev (fun _ => p) := ⟨0, fun _ _ => h⟩
theorem Ev.grd {b : Bool} {P : Nat -> Prop} (hb : b = true) (h : Ev P) : Ev (fun n => grd b (P n)) := by
 subst hb; exact h
theorem Ev.ite {c : Prop} [Decidable c] {P Q : Nat -> Prop} (h1 : c -> Ev P) (h2 : ¬ c -> Ev Q) : Ev (fun n => if c then P n else Q n) := by
 by_cases h : c
 ·simp only [if_pos h]; exact h1 h
 ·simp only [if_neg h]; exact h2 h
theorem Ev.pos {c : Prop} [Decidable c] {P Q : Nat -> Prop} (h : c) (h1 : Ev P) : Ev (fun n => if c then P n else Q n) := by
 simp only [if_pos h]; exact h1
theorem Ev.neg {c : Prop} [Decidable c] {P Q : Nat -> Prop} (h : ¬ c) (h1 : Ev Q) : Ev (fun n => if c then P n else Q n) := by
 simp only [if_neg h]; exact h1
theorem Ev.some {P : Nat -> Prop} : Ev P -> ∃ n, P n
 | ⟨N, h⟩ => ⟨N, h N (Nat.le_refl _)⟩
theorem wrap64 {x : Int} (h1 : -9223372036854775808 <= x) (h2 : x < 9223372036854775808) : IntKind.wrap .i64 x = x := by
 simp only [IntKind.wrap, IntKind.bits, IntKind.signed, Bool.true_and]
 split <;> simp_all <;> omega
theorem wrapU {x : Int} (h1 : 0 <= x) (h2 : x < 18446744073709551616) : IntKind.wrap .u64 x = x := by
 simp only [IntKind.wrap, IntKind.bits, IntKind.signed, Bool.false_and]
 simp; omega
theorem wrapUm (x : Int) : IntKind.wrap .u64 x = x % 18446744073709551616 := by
 simp only [IntKind.wrap, IntKind.bits, IntKind.signed, Bool.false_and]
 simp
theorem wrapUr (x : Int) : 0 <= IntKind.wrap .u64 x /\ IntKind.wrap .u64 x < 18446744073709551616 := by
 rw [wrapUm]; omega
theorem wrap64r (x : Int) : -9223372036854775808 <= IntKind.wrap .i64 x /\ IntKind.wrap .i64 x < 9223372036854775808 := by
 simp only [IntKind.wrap, IntKind.bits, IntKind.signed, Bool.true_and]
 split <;> simp_all <;> omega
theorem wrap8 {x : Int} (h1 : 0 <= x) (h2 : x < 256) : IntKind.wrap .u8 x = x := by
 simp only [IntKind.wrap, IntKind.bits, IntKind.signed, Bool.false_and]
 simp; omega
theorem tdivP {x m : Int} (h : 0 <= x) : Int.tdiv x m = x / m := Int.tdiv_eq_ediv_of_nonneg h
theorem tmodP {x m : Int} (h : 0 <= x) : Int.tmod x m = x % m := Int.tmod_eq_emod_of_nonneg h
theorem fdivP {x m : Int} (h : 0 <= m) : Int.fdiv x m = x / m := Int.fdiv_eq_ediv_of_nonneg x h
def W (ws : List Nat) : List Int := ws.map Int.ofNat
theorem W_len (ws : List Nat) : (W ws).length = ws.length := by simp [W]
theorem W_rd (ws : List Nat) (i : Nat) : rd (W ws) i = ((ws.getD i 0 : Nat) : Int) := by
 simp only [rd, W, List.getD_eq_getElem?_getD, List.getElem?_map]
 cases ws[i]? <;> rfl
theorem W_set (ws : List Nat) (i x : Nat) : List.set (W ws) i (x : Int) = W (ws.set i x) := by
 simp only [W, List.map_set]; rfl
theorem W_rep (n : Nat) : List.replicate n (0 : Int) = W (List.replicate n 0) := by simp [W]
def Below (m : Nat) (ws : List Nat) : Prop := ∀ x ∈ ws, x < m
theorem W_of {m : Nat} : ∀ {l : List Int}, (∀ x ∈ l, 0 <= x /\ x < (m : Int)) -> ∃ ws, l = W ws /\ Below m ws
 | [], _ => ⟨[], rfl, by simp [Below]⟩
 | x :: l, h => by
  obtain ⟨ws, rfl, hb⟩ := W_of (l := l) fun y hy => h y (by simp [hy])
  have hx := h x (by simp)
  refine ⟨x.toNat :: ws, ?_, ?_⟩
  ·simp only [W, List.map_cons, List.cons.injEq, and_true]
   show x = (x.toNat : Int); omega
  ·intro y hy
   simp only [List.mem_cons] at hy
   rcases hy with rfl | hy
   ·omega
   ·exact hb y hy
theorem Below.getD {m : Nat} {ws : List Nat} (h : Below m ws) (hm : 0 < m) (i : Nat) : ws.getD i 0 < m := by
 rw [List.getD_eq_getElem?_getD]
 cases hw : ws[i]? with
 | none => exact hm
 | some y => exact h y (List.mem_of_getElem? hw)
theorem Below.set {m : Nat} {ws : List Nat} (h : Below m ws) {i x : Nat} (hx : x < m) : Below m (ws.set i x) := by
 intro y hy
 rcases List.mem_or_eq_of_mem_set hy with h' | rfl
 ·exact h y h'
 ·exact hx
theorem Below.rep {m n : Nat} (hm : 0 < m) : Below m (List.replicate n 0) := by
 intro y hy
 rw [List.eq_of_mem_replicate hy]; exact hm
theorem or_W {a b : Nat} (ha : a < 18446744073709551616) (hb : b < 18446744073709551616) : ibits .or .u64 (a : Int) (b : Int) = ((a ||| b : Nat) : Int) := by
 have hab : a ||| b < 2 ^ 64 := Nat.or_lt_two_pow ha hb
 show IntKind.wrap .u64 (((BitVec.ofInt 64 (a : Int) ||| BitVec.ofInt 64 (b : Int) : BitVec 64).toNat : Nat) : Int) = _
 rw [BitVec.toNat_or, BitVec.ofInt_natCast, BitVec.ofInt_natCast, BitVec.toNat_ofNat, BitVec.toNat_ofNat]
 rw [Nat.mod_eq_of_lt ha, Nat.mod_eq_of_lt hb]
 exact wrapU (by omega) (by omega)
theorem and_W {a b : Nat} (ha : a < 18446744073709551616) (hb : b < 18446744073709551616) : ibits .and .u64 (a : Int) (b : Int) = ((a &&& b : Nat) : Int) := by
 have hab : a &&& b < 2 ^ 64 := Nat.and_lt_two_pow a hb
 show IntKind.wrap .u64 (((BitVec.ofInt 64 (a : Int) &&& BitVec.ofInt 64 (b : Int) : BitVec 64).toNat : Nat) : Int) = _
 rw [BitVec.toNat_and, BitVec.ofInt_natCast, BitVec.ofInt_natCast, BitVec.toNat_ofNat, BitVec.toNat_ofNat]
 rw [Nat.mod_eq_of_lt ha, Nat.mod_eq_of_lt hb]
 exact wrapU (by omega) (by omega)
theorem ibitsU (op : BinOp) (x y : Int) : 0 <= ibits op .u64 x y /\ ibits op .u64 x y < 18446744073709551616 := by
 cases op <;> first | exact wrapUr _ | (constructor <;> decide)
theorem shl_W (a k : Nat) (hk : k <= 64) : IntKind.wrap .u64 ((a : Int) * 2 ^ (Nat.min k 64)) = (((a <<< k) % 18446744073709551616 : Nat) : Int) := by
 rw [wrapUm, show Nat.min k 64 = k from Nat.min_eq_left hk, Nat.shiftLeft_eq]
 simp
theorem shr_W (a k : Nat) (hk : k <= 64) : Int.fdiv (a : Int) (2 ^ (Nat.min k 64)) = ((a >>> k : Nat) : Int) := by
 rw [fdivP (Int.le_of_lt (Int.pow_pos (by decide))), show Nat.min k 64 = k from Nat.min_eq_left hk, Nat.shiftRight_eq_div_pow]
 simp
def bit (ws : List Nat) (i : Nat) : Bool := (ws.getD (i / 64) 0).testBit (i % 64)
theorem bit_set {ws : List Nat} {k x : Nat} (hk : k < ws.length) (i : Nat) : bit (ws.set k x) i = if i / 64 = k then x.testBit (i % 64) else bit ws i := by
 simp only [bit, List.getD_eq_getElem?_getD, List.getElem?_set]
 by_cases h : i / 64 = k
 ·subst h; simp [hk]
 ·rw [if_neg (fun h' => h h'.symm), if_neg h]
theorem bit_out {ws : List Nat} {i : Nat} (h : 64 * ws.length <= i) : bit ws i = false := by
 have : ws.length <= i / 64 := by omega
 simp [bit, List.getD_eq_getElem?_getD, List.getElem?_eq_none this]
theorem bit_rep (n i : Nat) : bit (List.replicate n 0) i = false := by
 simp only [bit, List.getD_eq_getElem?_getD, List.getElem?_replicate]
 split <;> simp
theorem words_ext {a b : List Nat} (hl : a.length = b.length) (ha : Below 18446744073709551616 a) (hb : Below 18446744073709551616 b)
  (h : ∀ i, i < 64 * a.length -> bit a i = bit b i) : a = b := by
 apply List.ext_getElem hl
 intro k h1 h2
 apply Nat.eq_of_testBit_eq
 intro j
 by_cases hj : j < 64
 ·have := h (64 * k + j) (by omega)
  have e1 : (64 * k + j) / 64 = k := by omega
  have e2 : (64 * k + j) % 64 = j := by omega
  simpa [bit, e1, e2, List.getD_eq_getElem?_getD, h1, h2] using this
 ·have p : ∀ x, x < 18446744073709551616 -> x.testBit j = false := fun x hx =>
   Nat.testBit_lt_two_pow (Nat.lt_of_lt_of_le hx (Nat.pow_le_pow_right (n := 2) (by decide) (Nat.not_lt.mp hj)))
  rw [p _ (ha _ (List.getElem_mem h1)), p _ (hb _ (List.getElem_mem h2))]
end Go.Vsi
end

section
set_option linter.unusedVariables false
namespace Go.Vsi
theorem Ev.suc {P : Nat -> Prop} : Ev P ↔ Ev (fun n => P (n + 1)) := ⟨Ev.shift, Ev.succ⟩
theorem Ev.s0 (R : Nat -> Prop) : Ev (fun n => R (n + 1)) ↔ Ev (fun n => R n) := ⟨Ev.succ, Ev.shift⟩
theorem Ev.s1 {α : Type} (R : Nat -> α -> Prop) (a : α) : Ev (fun n => R (n + 1) a) ↔ Ev (fun n => R n a) := Ev.s0 (fun n => R n a)
theorem Ev.s2 {α β : Type} (R : Nat -> α -> β -> Prop) (a : α) (b : β) : Ev (fun n => R (n + 1) a b) ↔ Ev (fun n => R n a b) := Ev.s0 (fun n => R n a b)
theorem Ev.s3 {α β γ : Type} (R : Nat -> α -> β -> γ -> Prop) (a : α) (b : β) (c : γ) : Ev (fun n => R (n + 1) a b c) ↔ Ev (fun n => R n a b c) := Ev.s0 (fun n => R n a b c)
theorem Ev.s4 {α β γ δ : Type} (R : Nat -> α -> β -> γ -> δ -> Prop) (a : α) (b : β) (c : γ) (d : δ) : Ev (fun n => R (n + 1) a b c d) ↔ Ev (fun n => R n a b c d) := Ev.s0 (fun n => R n a b c d)
@[simp] theorem Ev.k {p : Prop} : Ev (fun _ => p) ↔ p := ⟨fun ⟨_, h⟩ => h _ (Nat.le_refl _), Ev.const⟩
@[simp] theorem Ev.iteI {c : Prop} [Decidable c] {P Q : Nat -> Prop} : Ev (fun n => if c then P n else Q n) ↔ if c then Ev P else Ev Q := by
 by_cases h : c <;> simp only [h, if_true, if_false]
@[simp] theorem Ev.andI {P Q : Nat -> Prop} : Ev (fun n => P n /\ Q n) ↔ Ev P /\ Ev Q :=
 ⟨fun ⟨N, h⟩ => ⟨⟨N, fun n hn => (h n hn).1⟩, ⟨N, fun n hn => (h n hn).2⟩⟩, fun h => Ev.and h.1 h.2⟩
theorem grd_dec {p : Prop} [Decidable p] {P : Prop} (h : p) : grd (decide p) P ↔ P := by rw [decide_eq_true h]; exact Iff.rfl
theorem grd_dec2 {p q : Prop} [Decidable p] [Decidable q] {P : Prop} (h : p /\ q) : grd (decide p && decide q) P ↔ P := by rw [decide_eq_true h.1, decide_eq_true h.2]; exact Iff.rfl
@[simp] theorem grd_true {P : Prop} : grd true P ↔ P := Iff.rfl
theorem drop_nil {α : Type} {l : List α} {x : Int} (h : l.drop x.toNat = []) (h0 : 0 <= x) : (l.length : Int) <= x := by
 have := List.drop_eq_nil_iff.1 h; omega
theorem drop_cons {α : Type} [Inhabited α] {l ys : List α} {x : Int} {y : α} (h : l.drop x.toNat = y :: ys) (h0 : 0 <= x) :
  x < (l.length : Int) /\ rd l x.toNat = y /\ l.drop (x + 1).toNat = ys := by
 have hl : x.toNat < l.length := by
  rcases Nat.lt_or_ge x.toNat l.length with h' | h'
  ·exact h'
  ·rw [List.drop_eq_nil_of_le h'] at h; cases h
 refine ⟨by omega, ?_, ?_⟩
 ·have := List.getElem?_drop (xs := l) (i := x.toNat) (j := 0)
  rw [h] at this
  simp only [List.getElem?_cons_zero, Nat.add_zero] at this
  simp [rd, List.getD_eq_getElem?_getD, <- this]
 ·rw [show (x + 1).toNat = x.toNat + 1 from by omega, <- List.drop_drop, h]; rfl
theorem ev_arg {α : Type} {R : Nat -> α -> Prop} {a b : α} (h : a = b) : Ev (fun n => R n a) ↔ Ev (fun n => R n b) := by rw [h]
def Gd : (t : Ty) -> t.T -> Prop
 | .int k, n => k.min <= n /\ n <= k.max
 | .str, s => s.length <= 9223372036854775807
 | .sl _ t, l => l.length <= 9223372036854775807 /\ ∀ y, y ∈ l -> Gd t y
 | .prod a b, p => Gd a p.1 /\ Gd b p.2
 | .bool, _ => True
 | .unit, _ => True
 | .ptr _ _, _ => True
end Go.Vsi
end

section
set_option linter.unusedVariables false
set_option linter.unusedSimpArgs false
namespace Go.Vsi
structure Ok (w : Int) (ws : List Nat) : Prop where
 lo : 1 <= w
 hi : w <= 4096
 len : (ws.length : Int) = (w + 63) / 64
 words : Below 18446744073709551616 ws
 top : ∀ i : Nat, w <= i -> bit ws i = false
def wnum (f : Nat -> Bool) : Nat -> Nat
 | 0 => 0
 | n + 1 => wnum f n ||| ((f n).toNat <<< n)
theorem toNat_testBit (b : Bool) (k : Nat) : b.toNat.testBit k = (decide (k = 0) && b) := by
 cases b
 ·simp
 ·cases k <;> simp [Nat.testBit_succ]
theorem wnum_bit (f : Nat -> Bool) : ∀ (n j : Nat), (wnum f n).testBit j = (decide (j < n) && f j)
 | 0, j => by simp [wnum]
 | n + 1, j => by
  rw [wnum, Nat.testBit_or, wnum_bit f n, Nat.testBit_shiftLeft, toNat_testBit]
  by_cases h : j < n
  ·have h1 : j < n + 1 := by omega
   have h2 : ¬ n <= j := by omega
   simp [h, h1, h2]
  ·by_cases h3 : j = n
   ·subst h3; simp
   ·have h1 : ¬ j < n + 1 := by omega
    have h2 : ¬ j - n = 0 := by omega
    simp [h, h1, h2]
theorem wnum_lt (f : Nat -> Bool) (n : Nat) : wnum f n < 2 ^ n := by
 apply Nat.lt_pow_two_of_testBit
 intro j hj
 rw [wnum_bit]
 have : ¬ j < n := by omega
 simp [this]
def pk (w : Nat) (f : Nat -> Bool) : List Nat := (List.range ((w + 63) / 64)).map fun k => wnum (fun j => decide (64 * k + j < w) && f (64 * k + j)) 64
theorem pk_len (w : Nat) (f : Nat -> Bool) : (pk w f).length = (w + 63) / 64 := by simp [pk]
theorem pk_getD (w : Nat) (f : Nat -> Bool) {k : Nat} (h : k < (w + 63) / 64) : (pk w f).getD k 0 = wnum (fun j => decide (64 * k + j < w) && f (64 * k + j)) 64 := by
 rw [List.getD_eq_getElem?_getD, pk, List.getElem?_map, List.getElem?_range h]; rfl
theorem pk_bit (w : Nat) (f : Nat -> Bool) (i : Nat) : bit (pk w f) i = (decide (i < w) && f i) := by
 by_cases h : i / 64 < (w + 63) / 64
 ·rw [bit, pk_getD w f h, wnum_bit, show 64 * (i / 64) + i % 64 = i from by omega]
  have : i % 64 < 64 := by omega
  simp [this]
 ·rw [bit_out (by rw [pk_len]; omega)]
  have : ¬ i < w := by omega
  simp [this]
theorem pk_below (w : Nat) (f : Nat -> Bool) : Below 18446744073709551616 (pk w f) := by
 intro x hx
 rw [pk, List.mem_map] at hx
 obtain ⟨k, _, rfl⟩ := hx
 exact wnum_lt _ 64
theorem pk_ok {w : Nat} (f : Nat -> Bool) (h1 : 1 <= w) (h2 : w <= 4096) : Ok w (pk w f) :=
 ⟨by omega, by omega, by rw [pk_len]; omega, pk_below w f, fun i hi => by
  rw [pk_bit]
  have : ¬ i < w := by omega
  simp [this]⟩
theorem pk_of {w : Nat} {ws : List Nat} {f : Nat -> Bool} (h : Ok w ws) (hf : ∀ i, i < w -> bit ws i = f i) : ws = pk w f := by
 refine words_ext (by rw [pk_len]; have := h.len; omega) h.words (pk_below w f) fun i _ => ?_
 rw [pk_bit]
 by_cases hi : i < w
 ·rw [hf i hi]; simp [hi]
 ·rw [h.top i (by omega)]; simp [hi]
def bl (w : Nat) (f : Nat -> Bool) : List Int := (List.range w).map fun i => ((f i).toNat : Int)
theorem bl_len (w : Nat) (f : Nat -> Bool) : (bl w f).length = w := by simp [bl]
theorem bl_rd {w : Nat} {f : Nat -> Bool} {i : Nat} (h : i < w) : rd (bl w f) i = ((f i).toNat : Int) := by
 rw [rd, List.getD_eq_getElem?_getD, bl, List.getElem?_map, List.getElem?_range h]; rfl
theorem bl_ext {w : Nat} {f g : Nat -> Bool} (h : ∀ i, i < w -> f i = g i) : bl w f = bl w g := by
 rw [bl, bl]; refine List.map_congr_left fun i hi => ?_
 rw [h i (List.mem_range.1 hi)]
theorem bl_of {l : List Int} {w : Nat} {f : Nat -> Bool} (hl : l.length = w) (h : ∀ i, i < w -> rd l i = ((f i).toNat : Int)) : l = bl w f := by
 apply List.ext_getElem (by rw [hl, bl_len])
 intro i h1 h2
 have a := h i (by omega)
 have b := bl_rd (f := f) (show i < w by omega)
 rw [rd, List.getD_eq_getElem?_getD, List.getElem?_eq_getElem h1] at a
 rw [rd, List.getD_eq_getElem?_getD, List.getElem?_eq_getElem h2] at b
 simp only [Option.getD_some] at a b
 rw [a, b]
theorem bl_app (u v : Nat) (f g : Nat -> Bool) : bl u f ++ bl v g = bl (u + v) (fun i => if i < u then f i else g (i - u)) := by
 refine bl_of (by simp [bl_len]) fun i hi => ?_
 rw [rd, List.getD_eq_getElem?_getD]
 by_cases h : i < u
 ·rw [List.getElem?_append_left (by rw [bl_len]; exact h), <- List.getD_eq_getElem?_getD]
  simp only [h, if_true]; exact bl_rd h
 ·rw [List.getElem?_append_right (by rw [bl_len]; omega), bl_len, <- List.getD_eq_getElem?_getD]
  simp only [h, if_false]; exact bl_rd (by omega)
theorem bl_one (b : Bool) : [((b.toNat : Nat) : Int)] = bl 1 (fun _ => b) := rfl
theorem bl_zero (f : Nat -> Bool) : bl 0 f = [] := rfl
end Go.Vsi
end

section
set_option linter.unusedVariables false
set_option linter.unusedSimpArgs false
set_option synthInstance.maxSize 4096
namespace Go.Vsi
end Go.Vsi
end

section
set_option linter.unusedVariables false
set_option linter.unusedSimpArgs false
set_option synthInstance.maxSize 4096
namespace Go.Vsi
def Wd (l : List Int) : Prop := ∀ x ∈ l, 0 <= x /\ x <= 18446744073709551615
def bitsOk (w : Int) (l : List Int) : Bool := decide (1 <= w /\ w <= 4096 /\ (l.length : Int) = (w + 63) / 64 /\ (w % 64 = 0 \/ rd l (l.length - 1) / 2 ^ (w % 64).toNat = 0))
theorem bit_div {x j : Nat} : x / 2 ^ j % 2 = (x.testBit j).toNat := by
 rw [Nat.testBit, Nat.shiftRight_eq_div_pow, Nat.one_and_eq_mod_two]
 rcases Nat.mod_two_eq_zero_or_one (x / 2 ^ j) with h | h <;> simp [h]
theorem l1In_ev {a b c : Int} (R : Nat -> Bool -> Prop) : Ev (fun n => Z18.c n a b c (R n)) ↔ Ev (fun n => R n (decide (b <= a /\ a <= c))) := by
 refine Ev.suc.trans ?_
 simp only [Z18.c, Z18.w, Ev.iteI, decide_eq_true_eq, Ev.s1 R, ge_iff_le]
 split
 ·refine ev_arg ?_; rw [decide_eq_decide]; omega
 ·refine ev_arg ?_; symm; rw [decide_eq_false_iff_not]; omega
theorem inside_ev {a b c : Int} (R : Nat -> Bool -> Prop) : Ev (fun n => Z3.c n a b c (R n)) ↔ Ev (fun n => R n (decide (b <= a /\ a <= c))) := by
 refine Ev.suc.trans ?_
 simp only [Z3.c, Z3.w, Ev.iteI, decide_eq_true_eq, Ev.s1 R, ge_iff_le]
 split
 ·refine ev_arg ?_; rw [decide_eq_decide]; omega
 ·refine ev_arg ?_; symm; rw [decide_eq_false_iff_not]; omega
theorem wordsFor_ev {a : Int} (h0 : 0 <= a) (h1 : a <= 1000000000) (R : Nat -> Int -> Prop) : Ev (fun n => Z4.c n a (R n)) ↔ Ev (fun n => R n ((a + 63) / 64)) := by
 refine Ev.suc.trans ?_
 simp (disch := omega) only [Z4.c, Z4.w, wrap64, tdivP, Ev.s1 R]
theorem l1Bit_ev {ws : List Nat} (hw : Below 18446744073709551616 ws) {k : Nat} (hk : k < 64 * ws.length) (hl : ws.length <= 4096) {w : Int} (R : Nat -> Int -> Prop) :
  Ev (fun n => Z14.c n w (W ws) k (R n)) ↔ Ev (fun n => R n ((bit ws k).toNat : Int)) := by
 refine Ev.suc.trans ?_
 have e : ibits .and .u64 ((ws.getD (k / 64) 0 >>> (k % 64) : Nat) : Int) 1 = (((bit ws k).toNat : Nat) : Int) := by
  have hx : ws.getD (k / 64) 0 >>> (k % 64) < 18446744073709551616 := by
   rw [Nat.shiftRight_eq_div_pow]; exact Nat.lt_of_le_of_lt (Nat.div_le_self _ _) (hw.getD (by decide) _)
  rw [show (1 : Int) = ((1 : Nat) : Int) from rfl, and_W hx (by decide), Nat.and_one_is_mod, Nat.shiftRight_eq_div_pow, bit_div]; rfl
 have e1 : Int.toNat ((k : Int) / 64) = k / 64 := by omega
 have e2 : Int.toNat ((k : Int) % 64) = k % 64 := by omega
 simp (disch := omega) only [Z14.c, Z14.w, W_len, tdivP, tmodP, wrap64, wrapU, grd_dec2, grd_dec, e1, e2, W_rd, shr_W, e]
 rw [wrap8 (by omega) (by cases bit ws k <;> simp), Ev.s1 R]
theorem specOk_lp {ws : List Nat} (hw : Below 18446744073709551616 ws) (hl : ws.length <= 4096) {w : Int} : ∀ (m k : Nat), k + m = 64 * ws.length -> ∃ b : Bool, (b = true ↔ ∀ i, k <= i -> bit ws i = false) /\
  ∀ (Kx : Nat -> Prop) (Kr : Nat -> Bool -> Prop), (Ev (fun n => Z8.l4 n w (W ws) k (Kx n) (Kr n)) ↔ if b = true then Ev Kx else Ev (fun n => Kr n false))
 | 0, k, h => by
  refine ⟨true, ⟨fun _ i hi => bit_out (by omega), fun _ => rfl⟩, fun Kx Kr => ?_⟩
  refine Ev.suc.trans ?_
  simp (disch := omega) only [Z8.l4, Z8.l4.b, W_len, wrap64, if_neg, decide_eq_true_eq, Ev.s0 Kx, if_true]
 | m + 1, k, h => by
  obtain ⟨b, hb, kk⟩ := specOk_lp hw hl (w := w) m (k + 1) (by omega)
  refine ⟨b && !bit ws k, ?_, fun Kx Kr => ?_⟩
  ·simp only [Bool.and_eq_true, Bool.not_eq_true', hb]
   constructor
   ·rintro ⟨h1, h2⟩ i hi
    rcases Nat.lt_or_eq_of_le hi with h' | rfl
    ·exact h1 i h'
    ·exact h2
   ·exact fun h => ⟨fun i hi => h i (by omega), h k (Nat.le_refl _)⟩
  ·refine Ev.suc.trans ?_
   have e : ((k : Int) + 1) = ((k + 1 : Nat) : Int) := by omega
   simp (disch := omega) only [Z8.l4, Z8.l4.b, W_len, wrap64, if_pos, decide_eq_true_eq, l1Bit_ev hw _ hl, Ev.iteI, Bool.not_eq_true', decide_eq_false_iff_not, e, kk, Ev.s0 Kx, Ev.s1 Kr]
   cases bit ws k <;> simp
theorem top_last {w : Int} {ws : List Nat} (hw : Below 18446744073709551616 ws) (h1 : 1 <= w) (h2 : (ws.length : Int) = (w + 63) / 64) (hr : w % 64 ≠ 0) :
  ws.getD (ws.length - 1) 0 >>> (w % 64).toNat = 0 ↔ ∀ i : Nat, w <= i -> bit ws i = false := by
 constructor
 ·intro h i hi
  by_cases ho : 64 * ws.length <= i
  ·exact bit_out ho
  ·have e1 : i / 64 = ws.length - 1 := by omega
   have := congrArg (fun y => Nat.testBit y (i % 64 - (w % 64).toNat)) h
   simp only [Nat.testBit_shiftRight, Nat.zero_testBit] at this
   rw [show (w % 64).toNat + (i % 64 - (w % 64).toNat) = i % 64 from by omega] at this
   rw [bit, e1]; exact this
 ·intro h
  apply Nat.eq_of_testBit_eq
  intro j
  rw [Nat.testBit_shiftRight, Nat.zero_testBit]
  by_cases hj : (w % 64).toNat + j < 64
  ·have := h (64 * (ws.length - 1) + ((w % 64).toNat + j)) (by omega)
   rw [bit, show (64 * (ws.length - 1) + ((w % 64).toNat + j)) / 64 = ws.length - 1 from by omega, show (64 * (ws.length - 1) + ((w % 64).toNat + j)) % 64 = (w % 64).toNat + j from by omega] at this
   exact this
  ·exact Nat.testBit_lt_two_pow (Nat.lt_of_lt_of_le (hw.getD (by decide) _) (Nat.pow_le_pow_right (n := 2) (by decide) (Nat.not_lt.mp hj)))
theorem bitsOk_W {w : Int} {ws : List Nat} (hw : Below 18446744073709551616 ws) : bitsOk w (W ws) = true ↔ 1 <= w /\ w <= 4096 /\ (ws.length : Int) = (w + 63) / 64 /\ ∀ i : Nat, w <= i -> bit ws i = false := by
 rw [bitsOk, decide_eq_true_eq, W_len, W_rd]
 refine ⟨fun ⟨h1, h2, h3, h4⟩ => ⟨h1, h2, h3, ?_⟩, fun ⟨h1, h2, h3, h4⟩ => ⟨h1, h2, h3, ?_⟩⟩
 ·by_cases h5 : w % 64 = 0
  ·exact fun i hi => bit_out (by omega)
  ·rcases h4 with h4 | h4
   ·exact absurd h4 h5
   ·rw [<- top_last hw h1 h3 h5, Nat.shiftRight_eq_div_pow]
    exact_mod_cast h4
 ·by_cases h5 : w % 64 = 0
  ·exact Or.inl h5
  ·have := (top_last hw h1 h3 h5).2 h4
   rw [Nat.shiftRight_eq_div_pow] at this
   exact Or.inr (by exact_mod_cast this)
theorem Wd.of {l : List Int} (h : Wd l) : ∃ ws, l = W ws /\ Below 18446744073709551616 ws := W_of fun x hx => ⟨(h x hx).1, by have := (h x hx).2; omega⟩
theorem specOk_ev {w : Int} {l : List Int} (hw : Wd l) (R : Nat -> Bool -> Prop) : Ev (fun n => Z8.c n w l (R n)) ↔ Ev (fun n => R n (bitsOk w l)) := by
 obtain ⟨ws, rfl, hB⟩ := hw.of
 have hiff := bitsOk_W (w := w) hB
 refine Ev.suc.trans ?_
 simp (disch := omega) only [Z8.c, Z8.w, l1In_ev, Ev.iteI, Bool.not_eq_false', Bool.not_eq_true', decide_eq_true_eq, decide_eq_false_iff_not, W_len]
 by_cases h1 : 1 <= w /\ w <= 4096
 ·rw [if_pos h1, wrap64 (x := w + 63) (by omega) (by omega), tdivP (by omega), wrap64 (by omega) (by omega)]
  by_cases h2 : (ws.length : Int) = (w + 63) / 64
  ·obtain ⟨b, hb, kk⟩ := specOk_lp hB (by omega) (w := w) (64 * ws.length - w.toNat) w.toNat (by omega)
   have e : ((w.toNat : Nat) : Int) = w := by omega
   rw [e] at kk
   rw [if_neg (by omega), kk, Ev.s1 R, Ev.s1 R]
   have : b = bitsOk w (W ws) := by
    rw [Bool.eq_iff_iff, hb, hiff]
    exact ⟨fun h => ⟨h1.1, h1.2, h2, fun i hi => h i (by omega)⟩, fun h i hi => h.2.2.2 i (by omega)⟩
   rw [<- this]
   cases b <;> rfl
  ·rw [if_pos h2, Ev.s1 R]
   have : bitsOk w (W ws) = false := by
    rw [Bool.eq_false_iff]; intro h; exact h2 (hiff.1 h).2.2.1
   rw [this]
 ·rw [if_neg h1, Ev.s1 R]
  have : bitsOk w (W ws) = false := by
   rw [Bool.eq_false_iff]; intro h; exact h1 ⟨(hiff.1 h).1, (hiff.1 h).2.1⟩
  rw [this]
theorem implOk_ev {w : Int} {l : List Int} (R : Nat -> Bool -> Prop) : Ev (fun n => Z0.c n w l (R n)) ↔ Ev (fun n => R n (bitsOk w l)) := by
 refine Ev.suc.trans ?_
 simp only [Z0.c, Z0.w, inside_ev, Ev.iteI, Ev.andI, Bool.not_eq_false', Bool.not_eq_true', decide_eq_true_eq, decide_eq_false_iff_not, Ev.s1 R, and_self]
 by_cases h1 : 1 <= w /\ w <= 4096
 ·rw [if_pos h1]
  simp (disch := omega) only [wordsFor_ev, Ev.iteI, Bool.not_eq_true', decide_eq_false_iff_not, Ev.s1 R]
  by_cases h2 : (l.length : Int) = (w + 63) / 64
  ·rw [if_neg (by omega)]
   simp (disch := omega) only [Z0.j0, tmodP, Ev.iteI, decide_eq_false_iff_not, wrap64, grd_dec2, grd_dec, Ev.s1 R]
   by_cases h3 : w % 64 = 0
   ·rw [if_neg (by omega), show bitsOk w l = true from by simp [bitsOk, h1, h2, h3]]
   ·rw [if_pos h3]
    refine ev_arg ?_
    have e1 : ((l.length : Int) - 1).toNat = l.length - 1 := by omega
    have e2 : Nat.min (w % 64).toNat 64 = (w % 64).toNat := Nat.min_eq_left (by omega)
    rw [e1, e2, fdivP (Int.le_of_lt (Int.pow_pos (by decide)))]
    simp [bitsOk, h1, h2, h3]
  ·rw [if_pos h2, show bitsOk w l = false from by simp [bitsOk, h2]]
 ·rw [if_neg h1, show bitsOk w l = false from by
   rw [Bool.eq_false_iff]; intro h; rw [bitsOk, decide_eq_true_eq] at h; exact h1 ⟨h.1, h.2.1⟩]
end Go.Vsi
end

section
set_option linter.unusedVariables false
set_option linter.unusedSimpArgs false
set_option synthInstance.maxSize 4096
namespace Go.Vsi
theorem bitsOk_Ok {w : Int} {ws : List Nat} (hw : Below 18446744073709551616 ws) : bitsOk w (W ws) = true ↔ Ok w ws := by
 rw [bitsOk_W hw]
 exact ⟨fun ⟨a, b, c, d⟩ => ⟨a, b, c, hw, d⟩, fun h => ⟨h.lo, h.hi, h.len, h.top⟩⟩
theorem bitsOk_ok {w : Int} {l : List Int} (hw : Wd l) (h : bitsOk w l = true) : ∃ ws, l = W ws /\ Ok w ws := by
 obtain ⟨ws, rfl, hB⟩ := hw.of
 exact ⟨ws, rfl, (bitsOk_Ok hB).1 h⟩
theorem Ok.bits {w : Int} {ws : List Nat} (h : Ok w ws) : bitsOk w (W ws) = true := (bitsOk_Ok h.words).2 h
theorem zero_ev {w : Int} (h0 : 0 <= w) (h1 : w <= 1000000) (R : Nat -> Int -> List Int -> Prop) : Ev (fun n => Z5.c n w (R n)) ↔ Ev (fun n => R n w (W (List.replicate ((w + 63) / 64).toNat 0))) := by
 refine Ev.suc.trans ?_
 simp (disch := omega) only [Z5.c, Z5.w, wordsFor_ev, grd_dec2, decide_true, Bool.and_true, W_rep, Ev.s2 R]
theorem shr_lt {x k : Nat} (hx : x < 18446744073709551616) : x >>> k < 18446744073709551616 := by
 rw [Nat.shiftRight_eq_div_pow]; exact Nat.lt_of_le_of_lt (Nat.div_le_self _ _) hx
theorem or_lt {a b : Nat} (ha : a < 18446744073709551616) (hb : b < 18446744073709551616) : a ||| b < 18446744073709551616 :=
 Nat.or_lt_two_pow (n := 64) ha hb
theorem put_one {out : List Nat} (hb : Below 18446744073709551616 out) {x p : Nat} (hx : x < 18446744073709551616) (hp : p / 64 < out.length) (i : Nat)
  (hi : i / 64 = p / 64) : (out.getD (p / 64) 0 ||| ((x <<< (p % 64)) % 18446744073709551616)).testBit (i % 64) = (bit out i || (decide (p <= i) && x.testBit (i - p))) := by
 rw [Nat.testBit_or, show 18446744073709551616 = 2 ^ 64 from rfl, Nat.testBit_mod_two_pow, Nat.testBit_shiftLeft, bit, hi]
 have h1 : i % 64 < 64 := by omega
 by_cases hs : p <= i
 ·rw [show i - p = i % 64 - p % 64 from by omega]
  have : p % 64 <= i % 64 := by omega
  simp [hs, this, h1]
 ·have : ¬ p % 64 <= i % 64 := by omega
  simp [hs, this]
end Go.Vsi
end

section
set_option linter.unusedVariables false
set_option linter.unusedSimpArgs false
set_option synthInstance.maxSize 4096
namespace Go.Vsi
end Go.Vsi
end

section
set_option linter.unusedVariables false
set_option linter.unusedSimpArgs false
set_option synthInstance.maxSize 4096
namespace Go.Vsi
theorem list_lp {w : Nat} {ws : List Nat} (hw : Below 18446744073709551616 ws) (hl : ws.length <= 4096) (hwl : w <= 64 * ws.length) : ∀ (m k : Nat), k + m = w -> ∀ R : Nat -> List Int -> Prop,
  (Ev (fun n => Z19.l3 n w (W ws) k (bl k (bit ws)) (R n)) ↔ Ev (fun n => R n (bl w (bit ws))))
 | 0, k, h, R => by
  obtain rfl : k = w := by omega
  refine Ev.suc.trans ?_
  simp (disch := omega) only [Z19.l3, Z19.l3.b, if_neg, decide_eq_true_eq, Ev.s1 R]
 | m + 1, k, h, R => by
  have ek : IntKind.wrap .i64 ((k : Int) + 1) = ((k + 1 : Nat) : Int) := wrap64 (by omega) (by omega)
  have e : bl k (bit ws) ++ [(((bit ws k).toNat : Nat) : Int)] = bl (k + 1) (bit ws) := by
   rw [bl_one, bl_app]
   refine bl_ext fun i hi => ?_
   split
   ·rfl
   ·congr 1; omega
  refine Ev.suc.trans ?_
  simp (disch := first | omega | (simp only [bl_len, List.length_cons, List.length_nil]; omega)) only [Z19.l3, Z19.l3.b, if_pos, decide_eq_true_eq, l1Bit_ev hw _ hl, grd_dec, ek, e]
  rw [list_lp hw hl hwl m (k + 1) (by omega), Ev.s1 R]
theorem list_ev {w : Nat} {ws : List Nat} (h : Ok w ws) (R : Nat -> List Int -> Prop) :
  Ev (fun n => Z19.c n w (W ws) (R n)) ↔ Ev (fun n => R n (bl w (bit ws))) := by
 have hlen := h.len
 have hhi := h.hi
 have k := list_lp (w := w) h.words (by omega) (by omega) w 0 (by omega) (fun n => R (n + 1))
 simp only [Int.natCast_zero, bl_zero] at k
 refine Ev.suc.trans ?_
 simp only [Z19.c, Z19.w]
 rw [k, Ev.s1 R]
theorem wd_W {ws : List Nat} (h : Below 18446744073709551616 ws) : Wd (W ws) := fun x hx => by
 obtain ⟨y, hy, rfl⟩ := List.mem_map.1 hx
 have := h y hy
 constructor
 ·exact Int.natCast_nonneg _
 ·show ((y : Nat) : Int) <= _
  omega
end Go.Vsi
end

section
set_option linter.unusedVariables false
set_option linter.unusedSimpArgs false
set_option synthInstance.maxSize 4096
namespace Go.Vsi
def hexL : List UInt8 := [48, 49, 50, 51, 52, 53, 54, 55, 56, 57, 97, 98, 99, 100, 101, 102]
def hexI (v : Nat) : Int := ((List.getD hexL v 0).toNat : Int)
def dig (ws : List Nat) (e at_ : Nat) : Nat := (ws.getD (at_ / 64) 0 >>> (at_ % 64)) % 2 ^ e
def dgs (ws : List Nat) (e : Nat) : Nat -> List Int
 | 0 => []
 | k + 1 => hexI (dig ws e (e * k)) :: dgs ws e k
theorem dgs_len {ws : List Nat} {e : Nat} : ∀ k, (dgs ws e k).length = k
 | 0 => rfl
 | k + 1 => by rw [dgs, List.length_cons, dgs_len k]
def wtxI (w : Nat) (ws : List Nat) : List Int := if w % 4 = 0 then [35, 120] ++ dgs ws 4 (w / 4) else [35, 98] ++ dgs ws 1 w
def wN (l : List Int) : List Nat := l.map Int.toNat
theorem wN_W (ws : List Nat) : wN (W ws) = ws := by
 unfold wN W
 rw [List.map_map]
 exact List.map_id' _
def wtx (b : Int) (l : List Int) : List UInt8 := if bitsOk b l = true then bytesStr (wtxI b.toNat (wN l)) else []
theorem bytesStr_len (l : List Int) : (bytesStr l).length = l.length := by simp [bytesStr]
theorem wtx_len (b : Int) (l : List Int) : (wtx b l).length <= 4098 := by
 rw [wtx]
 split
 ·rename_i h
  rw [bitsOk] at h
  have hb : b <= 4096 := by
   simp only [Bool.and_eq_true, decide_eq_true_eq] at h
   omega
  rw [bytesStr_len, wtxI]
  split
  ·rw [List.length_append, dgs_len]; simp; omega
  ·rw [List.length_append, dgs_len]; simp; omega
 ·simp
theorem writeI_lp {ws : List Nat} (hw : Below 18446744073709551616 ws) (hl : ws.length <= 64) {e : Nat} (he : e = 1 \/ e = 4) {x25 : Int} : ∀ (k : Nat) (o : List Int), e * k <= 64 * ws.length -> o.length + k <= 8192 -> ∀ Kx : Nat -> List Int -> Prop,
  (Ev (fun n => Z2.l8 n e x25 (W ws) ((e * k : Nat) - (e : Int)) o (Kx n)) ↔ Ev (fun n => Kx n (o ++ dgs ws e k)))
 | 0, o, h1, h2, Kx => by
  refine Ev.suc.trans ?_
  simp only [Z2.l8, Z2.l8.b]
  rw [Ev.iteI, if_neg (by simp; omega), dgs, List.append_nil, Ev.s1 Kx]
 | k + 1, o, h1, h2, Kx => by
  have ek : ((e * (k + 1) : Nat) : Int) - (e : Int) = ((e * k : Nat) : Int) := by rw [Nat.mul_add, Nat.mul_one]; omega
  rw [Nat.mul_add, Nat.mul_one] at h1
  have hk : e * k <= 4096 := by omega
  have e1 : IntKind.wrap .i64 (Int.tdiv ((e * k : Nat) : Int) 64) = ((e * k / 64 : Nat) : Int) := by rw [tdivP (by omega), wrap64 (by omega) (by omega)]; omega
  have e2 : Int.tmod ((e * k : Nat) : Int) 64 = ((e * k % 64 : Nat) : Int) := by rw [tmodP (by omega)]; omega
  have hx : ws.getD (e * k / 64) 0 < 18446744073709551616 := hw.getD (by decide) _
  have es := shr_W (ws.getD (e * k / 64) 0) (e * k % 64) (by omega)
  have hx2 : ws.getD (e * k / 64) 0 >>> (e * k % 64) < 18446744073709551616 := shr_lt hx
  have e3 : IntKind.wrap .u64 ((IntKind.wrap .u64 (1 * 2 ^ (Nat.min (Int.toNat (e : Int)) 64))) - 1) = ((2 ^ e - 1 : Nat) : Int) := by
   rcases he with rfl | rfl <;> decide
  have ea : ibits .and .u64 ((ws.getD (e * k / 64) 0 >>> (e * k % 64) : Nat) : Int) ((2 ^ e - 1 : Nat) : Int) = ((dig ws e (e * k) : Nat) : Int) := by
   rw [and_W hx2 (by rcases he with rfl | rfl <;> decide), dig]
   congr 1
   exact Nat.and_two_pow_sub_one_eq_mod _ _
  have hd : dig ws e (e * k) < 16 := by
   have : dig ws e (e * k) < 2 ^ e := Nat.mod_lt _ (Nat.pow_pos (by decide))
   rcases he with rfl | rfl <;> omega
  have e5 : IntKind.wrap .i64 (((e * k : Nat) : Int) - (e : Int)) = ((e * k : Nat) : Int) - (e : Int) := wrap64 (by omega) (by omega)
  have ih := writeI_lp hw hl he (x25 := x25) k (o ++ [hexI (dig ws e (e * k))]) (by omega) (by simp; omega) (fun n => Kx (n + 1))
  refine Ev.suc.trans ?_
  rw [ek]
  simp only [Z2.l8, Z2.l8.b, e1, e2, Int.toNat_natCast, W_rd, W_len, es, e5]
  rw [Ev.iteI, if_pos (decide_eq_true (Int.natCast_nonneg _))]
  simp (disch := omega) only [grd_dec2, grd_dec]
  rw [show IntKind.wrap .u64 (1 * 2 ^ (Nat.min e 64)) - 1 = IntKind.wrap .u64 (1 * 2 ^ (Nat.min (Int.toNat (e : Int)) 64)) - 1 from by rw [Int.toNat_natCast], e3, ea]
  simp only [Int.toNat_natCast]
  have g1 : (0 : Int) <= (dig ws e (e * k) : Int) /\ (dig ws e (e * k) : Int) < ((([48, 49, 50, 51, 52, 53, 54, 55, 56, 57, 97, 98, 99, 100, 101, 102] : List UInt8).length : Nat) : Int) := ⟨by omega, by simp; omega⟩
  simp only [grd_dec2 g1]
  have g2 : o.length + ([((List.getD ([48, 49, 50, 51, 52, 53, 54, 55, 56, 57, 97, 98, 99, 100, 101, 102] : List UInt8) (dig ws e (e * k)) 0).toNat : Int)] : List Int).length <= 35184372088832 := by simp; omega
  simp only [grd_dec g2]
  refine ih.trans ?_
  rw [Ev.s1 Kx, dgs, List.append_assoc]; rfl
theorem writeI_ev {b : Int} {l : List Int} (hl : Wd l) (R : Nat -> List UInt8 -> Prop) : Ev (fun n => Z2.c n b l (R n)) ↔ Ev (fun n => R n (wtx b l)) := by
 refine Ev.suc.trans ?_
 simp only [Z2.c, Z2.w, implOk_ev, Ev.iteI]
 by_cases h : bitsOk b l = true
 ·obtain ⟨ws, rfl, ho⟩ := bitsOk_ok hl h
  have h1 := ho.lo
  have h2 := ho.hi
  have h3 := ho.len
  obtain ⟨w, rfl⟩ : ∃ w : Nat, b = (w : Int) := ⟨b.toNat, by omega⟩
  rw [if_neg (by rw [h]; decide), wtx, if_pos h, wN_W, Int.toNat_natCast, wtxI, tmodP (by omega)]
  by_cases hm : w % 4 = 0
  ·have lp := writeI_lp ho.words (by omega) (.inr rfl) (x25 := (w : Int)) (w / 4) [35, 120] (by omega) (by simp; omega) (fun n y => R (n + 1) (bytesStr y))
   rw [if_pos (by simp; omega), if_pos hm]
   rw [show IntKind.wrap .i64 ((w : Int) - 4) = ((4 * (w / 4) : Nat) : Int) - ((4 : Nat) : Int) from by rw [wrap64 (by omega) (by omega)]; omega]
   exact lp.trans (Ev.s1 R _)
  ·have lp := writeI_lp ho.words (by omega) (.inl rfl) (x25 := (w : Int)) w [35, 98] (by omega) (by simp; omega) (fun n y => R (n + 1) (bytesStr y))
   rw [if_neg (by simp; omega), if_neg hm]
   rw [show IntKind.wrap .i64 ((w : Int) - 1) = ((1 * w : Nat) : Int) - ((1 : Nat) : Int) from by rw [wrap64 (by omega) (by omega)]; omega]
   exact lp.trans (Ev.s1 R _)
 ·rw [if_pos (by simpa using h), wtx, if_neg h, Ev.s1 R]
end Go.Vsi
end

section
set_option linter.unusedVariables false
set_option linter.unusedSimpArgs false
set_option synthInstance.maxSize 4096
namespace Go.Vsi
theorem turned_lp {l : List Int} (hl : l.length <= 8192) : ∀ (k : Nat) (o : List Int), k <= l.length -> o = (l.drop k).reverse -> ∀ Kx : Nat -> List Int -> Prop,
  (Ev (fun n => Z30.l3 n l ((k : Int) - 1) o (Kx n)) ↔ Ev (fun n => Kx n l.reverse))
 | 0, o, hk, ho, Kx => by
  refine Ev.suc.trans ?_
  simp only [Z30.l3, Z30.l3.b]
  rw [Ev.iteI, if_neg (by simp), Ev.s1 Kx, ho]; rfl
 | k + 1, o, hk, ho, Kx => by
  have hlen : o.length = l.length - (k + 1) := by rw [ho, List.length_reverse, List.length_drop]
  have e0 : o ++ [rd l k] = (l.drop k).reverse := by
   rw [List.drop_eq_getElem_cons (show k < l.length by omega), List.reverse_cons, <- ho, rd, List.getD_eq_getElem?_getD, List.getElem?_eq_getElem (show k < l.length by omega)]; rfl
  have ih := turned_lp hl k (o ++ [rd l k]) (by omega) e0 (fun n => Kx (n + 1))
  refine Ev.suc.trans ?_
  simp only [Z30.l3, Z30.l3.b]
  rw [show ((k + 1 : Nat) : Int) - 1 = (k : Int) from by omega, wrap64 (x := (k : Int) - 1) (by omega) (by omega), Int.toNat_natCast, Ev.iteI, if_pos (by simp)]
  have g1 : (0 : Int) <= (k : Int) /\ (k : Int) < (l.length : Int) := ⟨by omega, by omega⟩
  have g2 : o.length + ([rd l k] : List Int).length <= 35184372088832 := by simp; omega
  simp only [grd_dec2 g1, grd_dec g2]
  exact ih.trans (Ev.s1 Kx _)
theorem turned_ev {l : List Int} (hl : l.length <= 8192) (R : Nat -> List Int -> Prop) : Ev (fun n => Z30.c n l (R n)) ↔ Ev (fun n => R n l.reverse) := by
 refine Ev.suc.trans ?_
 simp only [Z30.c, Z30.w]
 rw [wrap64 (by omega) (by omega)]
 exact (turned_lp hl l.length [] (Nat.le_refl _) (by simp) (fun n => R (n + 1))).trans (Ev.s1 R _)
theorem nib {y : Nat} : y % 16 = 8 * (y.testBit 3).toNat + 4 * (y.testBit 2).toNat + 2 * (y.testBit 1).toNat + (y.testBit 0).toNat := by
 have h : ∀ a : Nat, (decide (a % 2 = 1)).toNat = a % 2 := fun a => by
  rcases Nat.mod_two_eq_zero_or_one a with e | e <;> rw [e] <;> rfl
 rw [Nat.testBit_eq_decide_div_mod_eq, Nat.testBit_eq_decide_div_mod_eq, Nat.testBit_eq_decide_div_mod_eq, Nat.testBit_eq_decide_div_mod_eq, h, h, h, h]
 omega
theorem dig4 {ws : List Nat} {k : Nat} : dig ws 4 (4 * k) = 8 * (bit ws (4 * k + 3)).toNat + 4 * (bit ws (4 * k + 2)).toNat + 2 * (bit ws (4 * k + 1)).toNat + (bit ws (4 * k)).toNat := by
 unfold dig bit
 rw [show (4 * k + 3) / 64 = 4 * k / 64 from by omega, show (4 * k + 2) / 64 = 4 * k / 64 from by omega, show (4 * k + 1) / 64 = 4 * k / 64 from by omega,
  show (4 * k + 3) % 64 = 4 * k % 64 + 3 from by omega, show (4 * k + 2) % 64 = 4 * k % 64 + 2 from by omega, show (4 * k + 1) % 64 = 4 * k % 64 + 1 from by omega,
  show (2 : Nat) ^ 4 = 16 from rfl, nib, Nat.testBit_shiftRight, Nat.testBit_shiftRight, Nat.testBit_shiftRight, Nat.testBit_shiftRight, Nat.add_zero (4 * k % 64)]
theorem dig1 {ws : List Nat} {k : Nat} : hexI (dig ws 1 (1 * k)) = 48 + ((bit ws k).toNat : Int) := by
 have h : ∀ b : Bool, ∀ a : Nat, a = b.toNat -> hexI a = 48 + (b.toNat : Int) := fun b a e => by subst e; cases b <;> rfl
 refine h _ _ ?_
 unfold dig bit
 rw [Nat.one_mul, Nat.pow_one]
 have hm : ∀ y : Nat, y % 2 = (y.testBit 0).toNat := fun y => by
  rw [Nat.testBit_eq_decide_div_mod_eq, Nat.pow_zero, Nat.div_one]
  rcases Nat.mod_two_eq_zero_or_one y with e | e <;> rw [e] <;> rfl
 rw [hm, Nat.testBit_shiftRight, Nat.add_zero]
theorem rd_rev {w : Nat} {f : Nat -> Bool} {i : Nat} (hi : i < w) : rd (bl w f).reverse i = ((f (w - 1 - i)).toNat : Int) := by
 have hl : (bl w f).length = w := bl_len w f
 rw [rd, List.getD_eq_getElem?_getD, List.getElem?_reverse (by omega), hl, <- List.getD_eq_getElem?_getD]
 exact bl_rd (by omega)
theorem skip_lp {l : List Int} {w : Nat} {x32 : List Int} (hw : w % 4 = 0) (hl : l.length = w) (hw2 : w <= 4096) {i : Nat} (hi : i < w) (h4 : i % 4 ≠ 0) {o : List Int} {Kx : Nat -> List Int -> Prop} :
  Ev (fun n => Z13.l8 n l w x32 i o (Kx n)) ↔ Ev (fun n => Z13.l8 n l w x32 ((i + 1 : Nat) : Int) o (Kx (n + 1))) := by
 refine Ev.suc.trans ?_
 simp only [Z13.l8, Z13.l8.b]
 rw [Ev.iteI, if_pos (by simp; omega), tmodP (by omega), tmodP (by omega), wrap64 (x := (i : Int) + 1) (by omega) (by omega)]
 rw [Ev.iteI, if_neg (by simp; omega), Ev.iteI, if_neg (by simp; omega)]; rfl
theorem hexS_lp {w : Nat} {ws : List Nat} {x32 : List Int} (hw : w % 4 = 0) (hw2 : w <= 4096) : ∀ (k : Nat) (o : List Int), 4 * k <= w -> o.length + k <= 8192 -> ∀ Kx : Nat -> List Int -> Prop,
  (Ev (fun n => Z13.l8 n (bl w (bit ws)).reverse w x32 ((w - 4 * k : Nat) : Int) o (Kx n)) ↔ Ev (fun n => Kx n (o ++ dgs ws 4 k)))
 | 0, o, hk, ho, Kx => by
  have hl : (bl w (bit ws)).reverse.length = w := by rw [List.length_reverse, bl_len]
  refine Ev.suc.trans ?_
  simp only [Z13.l8, Z13.l8.b, hl]
  rw [Ev.iteI, if_neg (by simp), dgs, List.append_nil, Ev.s1 Kx]
 | k + 1, o, hk, ho, Kx => by
  have hl : (bl w (bit ws)).reverse.length = w := by rw [List.length_reverse, bl_len]
  obtain ⟨i, ei⟩ : ∃ i, i = w - 4 * (k + 1) := ⟨_, rfl⟩
  have ih := hexS_lp (ws := ws) (x32 := x32) hw hw2 k (o ++ [hexI (dig ws 4 (4 * k))]) (by omega) (by simp; omega) (fun n => Kx (n + 1 + 1 + 1 + 1))
  have s1 := skip_lp (l := (bl w (bit ws)).reverse) (x32 := x32) hw hl hw2 (i := i + 1) (by omega) (by omega) (o := o ++ [hexI (dig ws 4 (4 * k))]) (Kx := fun n => Kx (n + 1))
  have s2 := skip_lp (l := (bl w (bit ws)).reverse) (x32 := x32) hw hl hw2 (i := i + 1 + 1) (by omega) (by omega) (o := o ++ [hexI (dig ws 4 (4 * k))]) (Kx := fun n => Kx (n + 1 + 1))
  have s3 := skip_lp (l := (bl w (bit ws)).reverse) (x32 := x32) hw hl hw2 (i := i + 1 + 1 + 1) (by omega) (by omega) (o := o ++ [hexI (dig ws 4 (4 * k))]) (Kx := fun n => Kx (n + 1 + 1 + 1))
  rw [show w - 4 * k = i + 1 + 1 + 1 + 1 from by omega] at ih
  have r0 := rd_rev (f := bit ws) (show i < w by omega)
  have r1 := rd_rev (f := bit ws) (show i + 1 < w by omega)
  have r2 := rd_rev (f := bit ws) (show i + 2 < w by omega)
  have r3 := rd_rev (f := bit ws) (show i + 3 < w by omega)
  rw [show w - 1 - i = 4 * k + 3 from by omega] at r0
  rw [show w - 1 - (i + 1) = 4 * k + 2 from by omega] at r1
  rw [show w - 1 - (i + 2) = 4 * k + 1 from by omega] at r2
  rw [show w - 1 - (i + 3) = 4 * k from by omega] at r3
  have hd := dig4 (ws := ws) (k := k)
  have b0 := Bool.toNat_le (bit ws (4 * k + 3))
  have b1 := Bool.toNat_le (bit ws (4 * k + 2))
  have b2 := Bool.toNat_le (bit ws (4 * k + 1))
  have b3 := Bool.toNat_le (bit ws (4 * k))
  generalize (bit ws (4 * k + 3)).toNat = a0 at *
  generalize (bit ws (4 * k + 2)).toNat = a1 at *
  generalize (bit ws (4 * k + 1)).toNat = a2 at *
  generalize (bit ws (4 * k)).toNat = a3 at *
  have w8 : ∀ x : Int, 0 <= x -> x < 256 -> IntKind.wrap .u8 x = x := fun x h0 h1 => by
   show x % 256 = x
   exact Int.emod_eq_of_lt h0 h1
  have ev : IntKind.wrap .u8 (IntKind.wrap .u8 (IntKind.wrap .u8 (IntKind.wrap .u8 (8 * (a0 : Int)) + IntKind.wrap .u8 (4 * (a1 : Int))) + IntKind.wrap .u8 (2 * (a2 : Int))) + (a3 : Int)) = ((dig ws 4 (4 * k) : Nat) : Int) := by
   rw [w8 (8 * (a0 : Int)) (by omega) (by omega), w8 (4 * (a1 : Int)) (by omega) (by omega), w8 (2 * (a2 : Int)) (by omega) (by omega), w8 (8 * (a0 : Int) + 4 * a1) (by omega) (by omega), w8 (8 * (a0 : Int) + 4 * a1 + 2 * a2) (by omega) (by omega), w8 _ (by omega) (by omega), hd]
   omega
  refine Ev.suc.trans ?_
  rw [<- ei]
  simp only [Z13.l8, Z13.l8.b, hl]
  rw [tmodP (by omega), tmodP (by omega), wrap64 (x := (i : Int) + 1) (by omega) (by omega), wrap64 (x := (i : Int) + 2) (by omega) (by omega), wrap64 (x := (i : Int) + 3) (by omega) (by omega)]
  rw [show ((i : Int) + 1).toNat = i + 1 from by omega, show ((i : Int) + 2).toNat = i + 2 from by omega, show ((i : Int) + 3).toNat = i + 3 from by omega, Int.toNat_natCast, r0, r1, r2, r3, ev, Int.toNat_natCast]
  rw [Ev.iteI, if_pos (by simp; omega), Ev.iteI, if_neg (by simp; omega), Ev.iteI, if_pos (by simp; omega)]
  have g0 : (0 : Int) <= (i : Int) /\ (i : Int) < ((w : Nat) : Int) := ⟨by omega, by omega⟩
  have g1 : (0 : Int) <= (i : Int) + 1 /\ (i : Int) + 1 < ((w : Nat) : Int) := ⟨by omega, by omega⟩
  have g2 : (0 : Int) <= (i : Int) + 2 /\ (i : Int) + 2 < ((w : Nat) : Int) := ⟨by omega, by omega⟩
  have g3 : (0 : Int) <= (i : Int) + 3 /\ (i : Int) + 3 < ((w : Nat) : Int) := ⟨by omega, by omega⟩
  have g4 : (0 : Int) <= (dig ws 4 (4 * k) : Int) /\ (dig ws 4 (4 * k) : Int) < ((([48, 49, 50, 51, 52, 53, 54, 55, 56, 57, 97, 98, 99, 100, 101, 102] : List UInt8).length : Nat) : Int) := ⟨by omega, by simp; omega⟩
  have g5 : o.length + ([((List.getD ([48, 49, 50, 51, 52, 53, 54, 55, 56, 57, 97, 98, 99, 100, 101, 102] : List UInt8) (dig ws 4 (4 * k)) 0).toNat : Int)] : List Int).length <= 35184372088832 := by simp; omega
  simp only [grd_dec2 g0, grd_dec2 g1, grd_dec2 g2, grd_dec2 g3, grd_dec2 g4, grd_dec g5]
  refine (s1.trans (s2.trans (s3.trans ih))).trans ?_
  rw [dgs, List.append_assoc]
  exact (Ev.suc (P := fun n => Kx (n + 1 + 1 + 1) (o ++ ([hexI (dig ws 4 (4 * k))] ++ dgs ws 4 k)))).symm.trans ((Ev.suc (P := fun n => Kx (n + 1 + 1) (o ++ ([hexI (dig ws 4 (4 * k))] ++ dgs ws 4 k)))).symm.trans ((Ev.suc (P := fun n => Kx (n + 1) (o ++ ([hexI (dig ws 4 (4 * k))] ++ dgs ws 4 k)))).symm.trans (Ev.s1 Kx _)))
theorem binS_lp {w : Nat} {ws : List Nat} {x32 : List Int} (hw : w % 4 ≠ 0) (hw2 : w <= 4096) : ∀ (k : Nat) (o : List Int), k <= w -> o.length + k <= 8192 -> ∀ Kx : Nat -> List Int -> Prop,
  (Ev (fun n => Z13.l8 n (bl w (bit ws)).reverse w x32 ((w - k : Nat) : Int) o (Kx n)) ↔ Ev (fun n => Kx n (o ++ dgs ws 1 k)))
 | 0, o, hk, ho, Kx => by
  have hl : (bl w (bit ws)).reverse.length = w := by rw [List.length_reverse, bl_len]
  refine Ev.suc.trans ?_
  simp only [Z13.l8, Z13.l8.b, hl]
  rw [Ev.iteI, if_neg (by simp), dgs, List.append_nil, Ev.s1 Kx]
 | k + 1, o, hk, ho, Kx => by
  have hl : (bl w (bit ws)).reverse.length = w := by rw [List.length_reverse, bl_len]
  obtain ⟨i, ei⟩ : ∃ i, i = w - (k + 1) := ⟨_, rfl⟩
  have ih := binS_lp (ws := ws) (x32 := x32) hw hw2 k (o ++ [hexI (dig ws 1 (1 * k))]) (by omega) (by simp; omega) (fun n => Kx (n + 1))
  rw [show w - k = i + 1 from by omega] at ih
  have r0 := rd_rev (f := bit ws) (show i < w by omega)
  rw [show w - 1 - i = k from by omega] at r0
  have b0 := Bool.toNat_le (bit ws k)
  have ev : IntKind.wrap .u8 (48 + ((bit ws k).toNat : Int)) = hexI (dig ws 1 (1 * k)) := by
   rw [dig1]
   show (48 + ((bit ws k).toNat : Int)) % 256 = _
   exact Int.emod_eq_of_lt (by omega) (by omega)
  refine Ev.suc.trans ?_
  rw [<- ei]
  simp only [Z13.l8, Z13.l8.b, hl]
  rw [tmodP (by omega), wrap64 (x := (i : Int) + 1) (by omega) (by omega), Int.toNat_natCast, r0, ev]
  rw [Ev.iteI, if_pos (by simp; omega), Ev.iteI, if_pos (by simp; omega)]
  have g0 : (0 : Int) <= (i : Int) /\ (i : Int) < ((w : Nat) : Int) := ⟨by omega, by omega⟩
  have g5 : o.length + ([hexI (dig ws 1 (1 * k))] : List Int).length <= 35184372088832 := by simp; omega
  simp only [grd_dec2 g0, grd_dec g5]
  refine ih.trans ?_
  rw [Ev.s1 Kx, dgs, List.append_assoc]; rfl
theorem writeS_ev {b : Int} {l : List Int} (hl : Wd l) (R : Nat -> List UInt8 -> Prop) : Ev (fun n => Z13.c n b l (R n)) ↔ Ev (fun n => R n (wtx b l)) := by
 refine Ev.suc.trans ?_
 simp only [Z13.c, Z13.w, specOk_ev hl, Ev.iteI]
 by_cases h : bitsOk b l = true
 ·obtain ⟨ws, rfl, ho⟩ := bitsOk_ok hl h
  have h1 := ho.lo
  have h2 := ho.hi
  obtain ⟨w, rfl⟩ : ∃ w : Nat, b = (w : Int) := ⟨b.toNat, by omega⟩
  rw [if_neg (by rw [h]; decide), wtx, if_pos h, wN_W, Int.toNat_natCast, wtxI, list_ev ho, turned_ev (by rw [bl_len]; omega)]
  have g1 : 0 < ([35, 98] : List Int).length := by decide
  have g2 : 0 < ([35, 120] : List Int).length := by decide
  simp only [grd_dec g1, grd_dec g2, Ev.iteI, decide_eq_true_eq]
  rw [tmodP (by omega)]
  by_cases hm : w % 4 = 0
  ·have lp := hexS_lp (ws := ws) (x32 := W ws) hm (by omega) (w / 4) [35, 120] (by omega) (by simp; omega) (fun n y => R (n + 1) (bytesStr y))
   rw [show w - 4 * (w / 4) = 0 from by omega] at lp
   rw [if_pos (by omega), if_pos hm]
   exact lp.trans (Ev.s1 R _)
  ·have lp := binS_lp (ws := ws) (x32 := W ws) hm (by omega) w [35, 98] (Nat.le_refl _) (by simp; omega) (fun n y => R (n + 1) (bytesStr y))
   rw [show w - w = 0 from by omega] at lp
   rw [if_neg (by omega), if_neg hm]
   exact lp.trans (Ev.s1 R _)
 ·rw [if_pos (by simpa using h), wtx, if_neg h, Ev.s1 R]
end Go.Vsi
end

section
set_option linter.unusedVariables false
set_option linter.unusedSimpArgs false
set_option synthInstance.maxSize 4096
namespace Go.Vsi
def hexV (n : Nat) : Int := if 48 <= n /\ n <= 57 then (n : Int) - 48 else if 97 <= n /\ n <= 102 then (n : Int) - 87 else -1
theorem hex_all : ((List.range 256).all fun n => decide (Go.Lib.indexByte [48, 49, 50, 51, 52, 53, 54, 55, 56, 57, 97, 98, 99, 100, 101, 102] (UInt8.ofNat n) = hexV n)) = true := by decide +kernel
theorem hex_ix (c : UInt8) : Go.Lib.indexByte [48, 49, 50, 51, 52, 53, 54, 55, 56, 57, 97, 98, 99, 100, 101, 102] c = hexV c.toNat := by
 have h := List.all_eq_true.1 hex_all c.toNat (List.mem_range.2 c.toNat_lt)
 rw [decide_eq_true_eq, UInt8.ofNat_toNat] at h
 exact h
theorem hexV_lt (n : Nat) : hexV n < 16 := by
 unfold hexV; split
 ·omega
 ·split <;> omega
theorem ixb_ev (c : UInt8) (R : Nat -> Int -> Prop) : Ev (fun n => Z31.c n [48, 49, 50, 51, 52, 53, 54, 55, 56, 57, 97, 98, 99, 100, 101, 102] (c.toNat : Int) (R n)) ↔ Ev (fun n => R n (hexV c.toNat)) := by
 refine Ev.suc.trans ?_
 simp only [Z31.c, Z31.w, Int.toNat_natCast]
 rw [show c.toNat.toUInt8 = c from UInt8.ofNat_toNat, hex_ix]
 exact Ev.s1 R _
def validE (e : Nat) (c : UInt8) : Bool := decide (0 <= hexV c.toNat /\ hexV c.toNat < ((2 ^ e : Nat) : Int))
def dv (t : List UInt8) (i : Nat) : Nat := (hexV (List.getD t (t.length - 1 - i) 0).toNat).toNat
def dbit (t : List UInt8) (e b : Nat) : Bool := (dv t (b / e)).testBit (b % e)
def rdW (e : Nat) (t : List UInt8) : List Nat := pk (e * t.length) (dbit t e)
theorem put_dig {o : List Nat} (hb : Below 18446744073709551616 o) {e k n : Nat} (he : e = 1 \/ e = 4) (hn : n < 2 ^ e) (hp : e * k / 64 < o.length) {f : Nat -> Bool} (hf : ∀ b, bit o b = (decide (b < e * k) && f b)) (hfn : ∀ b, e * k <= b -> b < e * k + e -> f b = n.testBit (b - e * k)) :
  ∀ b, bit (o.set (e * k / 64) (o.getD (e * k / 64) 0 ||| ((n <<< (e * k % 64)) % 18446744073709551616))) b = (decide (b < e * (k + 1)) && f b) := by
 intro b
 have hn64 : n < 18446744073709551616 := by rcases he with rfl | rfl <;> omega
 have hek : e * (k + 1) = e * k + e := by rw [Nat.mul_add, Nat.mul_one]
 have hmod : e * k % 64 + e <= 64 := by rcases he with rfl | rfl <;> omega
 have hbig : ∀ j, e <= j -> n.testBit j = false := fun j hj => Nat.testBit_lt_two_pow (Nat.lt_of_lt_of_le hn (Nat.pow_le_pow_right (by decide) hj))
 rw [bit_set hp, hek]
 generalize e * k = p at *
 have main : (bit o b || (decide (p <= b) && n.testBit (b - p))) = (decide (b < p + e) && f b) := by
  rw [hf]
  by_cases h1 : b < p
  ·rw [decide_eq_true h1, decide_eq_true (show b < p + e by omega), decide_eq_false (show ¬ p <= b by omega)]; simp
  ·rw [decide_eq_false h1, decide_eq_true (show p <= b by omega), Bool.false_and, Bool.false_or, Bool.true_and]
   by_cases h2 : b < p + e
   ·rw [decide_eq_true h2, Bool.true_and, hfn b (by omega) h2]
   ·rw [decide_eq_false h2, Bool.false_and, hbig _ (by omega)]
 split
 ·rename_i h
  rw [put_one hb hn64 hp b h]; exact main
 ·rename_i h
  rw [<- main]
  by_cases h1 : p <= b
  ·rw [hbig (b - p) (by omega)]; simp
  ·simp [h1]
theorem take_all {t : List UInt8} {p : UInt8 -> Bool} {m : Nat} (h : m < t.length) : (t.take (m + 1)).all p = ((t.take m).all p && p (List.getD t m 0)) := by
 rw [List.take_add_one, List.all_append, List.getD_eq_getElem?_getD, List.getElem?_eq_getElem h]
 simp
theorem readI_lp {e : Nat} (he : e = 1 \/ e = 4) {t : List UInt8} (ha : ∀ c ∈ t, c.toNat < 128) (h0 : 1 <= t.length) (hl : e * t.length <= 4096) {x39 : List Int} {x40 x41 : Int} : ∀ (m k : Nat), k + m = t.length -> ∀ o : List Nat, o.length = (e * t.length + 63) / 64 -> Below 18446744073709551616 o ->
  (∀ b, bit o b = (decide (b < e * k) && dbit t e b)) -> ∀ (Kx : Nat -> List Int -> List Int -> Int -> Int -> Prop) (Kr : Nat -> Bool -> List Int -> Int -> Prop),
  (Ev (fun n => Z1.l12 n e t x39 x40 x41 t (W o) k (Kx n) (Kr n)) ↔ if (t.take m).all (validE e) = true then Ev (fun n => Kx n (W (rdW e t)) x39 x40 x41) else Ev (fun n => Kr n false [] 0))
 | 0, k, hk, o, ho, hb, hf, Kx, Kr => by
  obtain rfl : k = t.length := by omega
  have h1 : 1 <= e * t.length := by rcases he with rfl | rfl <;> omega
  have e1 : o = rdW e t := pk_of ⟨by omega, by omega, by omega, hb, fun i hi => by rw [hf, decide_eq_false (by omega)]; rfl⟩ fun i hi => by rw [hf, decide_eq_true hi]; rfl
  refine Ev.suc.trans ?_
  simp only [Z1.l12, Z1.l12.b]
  rw [Ev.iteI, if_neg (by simp), if_pos (by simp), e1]
  exact Ev.s4 Kx _ _ _ _
 | m + 1, k, hk, o, ho, hb, hf, Kx, Kr => by
  have hlen : t.length <= 4096 := by rcases he with rfl | rfl <;> omega
  obtain ⟨c, ec⟩ : ∃ c, c = List.getD t (t.length - 1 - k) 0 := ⟨_, rfl⟩
  have hm : t.length - 1 - k = m := by omega
  rw [hm] at ec
  have hk0 : (List.getD t k 0).toNat < 128 := by
   rw [List.getD_eq_getElem?_getD, List.getElem?_eq_getElem (show k < t.length by omega)]
   exact ha _ (List.getElem_mem _)
  have e44 : IntKind.wrap .i64 (IntKind.wrap .i64 ((t.length : Int) - 1) - (k : Int)) = (m : Int) := by
   rw [wrap64 (x := (t.length : Int) - 1) (by omega) (by omega), wrap64 (by omega) (by omega)]; omega
  have e55 : IntKind.wrap .i64 (1 * 2 ^ (Nat.min (Int.toNat (e : Int)) 64)) = ((2 ^ e : Nat) : Int) := by rcases he with rfl | rfl <;> decide
  have hv := hexV_lt c.toNat
  have hp2 : 2 ^ e <= 16 := by rcases he with rfl | rfl <;> decide
  refine Ev.suc.trans ?_
  simp only [Z1.l12, Z1.l12.b, Int.toNat_natCast, e44]
  rw [Ev.iteI, if_pos (by simp; omega)]
  have g0 : 0 <= (m : Int) /\ (m : Int) < (t.length : Int) := ⟨by omega, by omega⟩
  simp only [grd_dec hk0, grd_dec2 g0, <- ec]
  rw [ixb_ev, take_all (show m < t.length by omega), <- ec]
  have ge : (0 : Int) <= (e : Int) := by omega
  simp only [Ev.iteI, decide_eq_false_iff_not, grd_dec ge, decide_eq_true_eq]
  rw [show IntKind.wrap .i64 (1 * 2 ^ (Nat.min e 64)) = ((2 ^ e : Nat) : Int) from by rw [<- e55, Int.toNat_natCast]]
  by_cases hneg : hexV c.toNat < 0
  ·rw [if_neg (by omega), if_neg (show ¬ (((t.take m).all (validE e) && validE e c) = true) by unfold validE; rw [decide_eq_false (show ¬ (0 <= hexV c.toNat /\ hexV c.toNat < ((2 ^ e : Nat) : Int)) by omega)]; simp)]
   exact Ev.s3 Kr _ _ _
  ·rw [if_pos hneg]
   by_cases hbig : hexV c.toNat >= ((2 ^ e : Nat) : Int)
   ·rw [if_pos hbig, if_neg (show ¬ (((t.take m).all (validE e) && validE e c) = true) by unfold validE; rw [decide_eq_false (show ¬ (0 <= hexV c.toNat /\ hexV c.toNat < ((2 ^ e : Nat) : Int)) by omega)]; simp)]
    exact Ev.s3 Kr _ _ _
   ·rw [if_neg hbig, show ((t.take m).all (validE e) && validE e c) = (t.take m).all (validE e) from by unfold validE; rw [decide_eq_true (show 0 <= hexV c.toNat /\ hexV c.toNat < ((2 ^ e : Nat) : Int) by omega), Bool.and_true]]
    obtain ⟨v, ev⟩ : ∃ v : Nat, hexV c.toNat = (v : Int) := ⟨(hexV c.toNat).toNat, by omega⟩
    rw [ev] at hneg hbig hv ⊢
    have hvl : v < 2 ^ e := by omega
    have hek : e * k < e * t.length := by rcases he with rfl | rfl <;> omega
    have hpl : e * k / 64 < o.length := by omega
    have e1 : IntKind.wrap .i64 ((e : Int) * (k : Int)) = ((e * k : Nat) : Int) := by rw [<- Int.natCast_mul, wrap64 (by omega) (by omega)]
    have e2 : IntKind.wrap .i64 (Int.tdiv ((e * k : Nat) : Int) 64) = ((e * k / 64 : Nat) : Int) := by rw [tdivP (by omega), wrap64 (by omega) (by omega)]; omega
    have e3 : Int.tmod ((e * k : Nat) : Int) 64 = ((e * k % 64 : Nat) : Int) := by rw [tmodP (by omega)]; omega
    have e4 : IntKind.wrap .u64 (v : Int) = (v : Int) := wrapU (by omega) (by omega)
    have hx : o.getD (e * k / 64) 0 < 18446744073709551616 := hb.getD (by decide) _
    have hdv : dv t k = v := by unfold dv; rw [hm, <- ec, ev, Int.toNat_natCast]
    have ih := readI_lp he ha h0 hl (x39 := x39) (x40 := x40) (x41 := x41) m (k + 1) (by omega) (o.set (e * k / 64) (o.getD (e * k / 64) 0 ||| ((v <<< (e * k % 64)) % 18446744073709551616))) (by rw [List.length_set]; exact ho) (hb.set (or_lt hx (Nat.mod_lt _ (by decide))))
     (put_dig hb he hvl hpl hf fun b h1 h2 => by
      unfold dbit
      have q1 : b / e = k := by rcases he with rfl | rfl <;> omega
      have q2 : b % e = b - e * k := by rcases he with rfl | rfl <;> omega
      rw [q1, q2, hdv]) (fun n => Kx (n + 1)) (fun n => Kr (n + 1))
    simp only [Z1.j1, e1, e2, e3, e4, Int.toNat_natCast, W_rd, W_len]
    have g1 : (0 : Int) <= ((e * k / 64 : Nat) : Int) /\ ((e * k / 64 : Nat) : Int) < (o.length : Int) := ⟨by omega, by omega⟩
    have g2 : (0 : Int) <= ((e * k % 64 : Nat) : Int) := by omega
    simp only [grd_dec2 g1, grd_dec g2]
    rw [shl_W v _ (by omega), or_W hx (Nat.mod_lt _ (by decide)), W_set]
    refine ih.trans ?_
    split
    ·exact Ev.s4 Kx _ _ _ _
    ·exact Ev.s3 Kr _ _ _
def eOf (s : List UInt8) : Nat := if ((List.getD s 1 0).toNat : Int) = 120 then 4 else 1
def hdOk (s : List UInt8) : Bool := decide (3 <= s.length /\ ((List.getD s 0 0).toNat : Int) = 35 /\ (((List.getD s 1 0).toNat : Int) = 98 \/ ((List.getD s 1 0).toNat : Int) = 120))
def okT (s : List UInt8) : Bool := hdOk s && decide (eOf s * (s.length - 2) <= 4096) && (s.drop 2).all (validE (eOf s))
theorem eOf_or (s : List UInt8) : eOf s = 1 \/ eOf s = 4 := by unfold eOf; split <;> simp
theorem readJ2_ev {s : List UInt8} (ha : ∀ c ∈ s, c.toNat < 128) (hl : s.length <= 100000) (h3 : 3 <= s.length) {e : Nat} (he : e = 1 \/ e = 4) (R : Nat -> Int -> List Int -> Bool -> Prop) :
  Ev (fun n => Z1.j2 (R n) s (Z1.l12 n) n e) ↔ if e * (s.length - 2) <= 4096 /\ (s.drop 2).all (validE e) = true then Ev (fun n => R n ((e * (s.length - 2) : Nat) : Int) (W (rdW e (s.drop 2))) true) else Ev (fun n => R n 0 [] false) := by
 have hd : List.drop 2 (List.take (Int.toNat (s.length : Int)) s) = s.drop 2 := by rw [Int.toNat_natCast, List.take_length]
 have hdl : (s.drop 2).length = s.length - 2 := List.length_drop
 have hel : e * (s.length - 2) <= 400000 := by rcases he with rfl | rfl <;> omega
 have e1 : IntKind.wrap .i64 ((e : Int) * ((s.drop 2).length : Int)) = ((e * (s.length - 2) : Nat) : Int) := by
  rw [hdl, <- Int.natCast_mul, wrap64 (by omega) (by omega)]
 simp only [Z1.j2, hd, e1]
 have g : (2 : Int) <= (s.length : Int) := by omega
 simp only [grd_dec g, Ev.iteI, decide_eq_true_eq]
 by_cases hw : e * (s.length - 2) <= 4096
 ·have hpos : 1 <= e * (s.length - 2) := by rcases he with rfl | rfl <;> omega
  rw [if_neg (by omega), zero_ev (by omega) (by omega)]
  have ez : (((((e * (s.length - 2) : Nat) : Int)) + 63) / 64).toNat = (e * (s.drop 2).length + 63) / 64 := by rw [hdl]; omega
  have lp := readI_lp he (t := s.drop 2) (fun c hc => ha c (List.mem_of_mem_drop hc)) (by omega) (by rw [hdl]; exact hw) (x39 := []) (x40 := 0) (x41 := ((e * (s.length - 2) : Nat) : Int)) (s.drop 2).length 0 (by omega) (List.replicate ((e * (s.drop 2).length + 63) / 64) 0) (by simp) (Below.rep (by decide)) (fun b => by rw [bit_rep]; simp)
   (fun n y63 y64 y65 y66 => R n y66 y63 true) (fun n y67 y68 y69 => R n y69 y68 y67)
  rw [ez]
  refine lp.trans ?_
  rw [List.take_length]
  by_cases hv : (s.drop 2).all (validE e) = true
  ·rw [if_pos hv, if_pos ⟨hw, hv⟩]
  ·rw [if_neg hv, if_neg (fun h => hv h.2)]
 ·rw [if_pos (by omega), if_neg (fun h => hw h.1)]
theorem readI_ev {s : List UInt8} (ha : ∀ c ∈ s, c.toNat < 128) (hl : s.length <= 100000) (R : Nat -> Int -> List Int -> Bool -> Prop) :
  Ev (fun n => Z1.c n s (R n)) ↔ if okT s = true then Ev (fun n => R n ((eOf s * (s.length - 2) : Nat) : Int) (W (rdW (eOf s) (s.drop 2))) true) else Ev (fun n => R n 0 [] false) := by
 refine Ev.suc.trans ?_
 simp only [Z1.c, Z1.w, Ev.iteI, decide_eq_false_iff_not]
 by_cases h3 : 3 <= s.length
 ·have g0 : (0 : Int) < (s.length : Int) := by omega
  have g1 : (1 : Int) < (s.length : Int) := by omega
  rw [if_pos (by omega)]
  simp only [grd_dec g0, grd_dec g1, Ev.iteI, Bool.not_eq_false', Bool.not_eq_true', decide_eq_true_eq, decide_eq_false_iff_not, Z1.j3, Ev.s3 R]
  have j4 := readJ2_ev ha hl h3 (.inr rfl) (fun n => R (n + 1))
  have j1 := readJ2_ev ha hl h3 (.inl rfl) (fun n => R (n + 1))
  rw [Ev.s3 R, Ev.s3 R] at j4 j1
  simp only [Int.natCast_one] at j1
  rw [show ((4 : Nat) : Int) = 4 from rfl] at j4
  have eok : okT s = true ↔ (((List.getD s 0 0).toNat : Int) = 35 /\ (((List.getD s 1 0).toNat : Int) = 98 \/ ((List.getD s 1 0).toNat : Int) = 120)) /\ (eOf s * (s.length - 2) <= 4096 /\ (s.drop 2).all (validE (eOf s)) = true) := by
   unfold okT hdOk
   rw [Bool.and_eq_true, Bool.and_eq_true, decide_eq_true_eq, decide_eq_true_eq]
   constructor
   ·rintro ⟨⟨⟨_, a, b⟩, c⟩, d⟩; exact ⟨⟨a, b⟩, c, d⟩
   ·rintro ⟨⟨a, b⟩, c, d⟩; exact ⟨⟨⟨h3, a, b⟩, c⟩, d⟩
  by_cases ha0 : ((List.getD s 0 0).toNat : Int) = 35
  ·rw [if_pos ha0]
   by_cases h98 : ((List.getD s 1 0).toNat : Int) = 98
   ·have ee : eOf s = 1 := by unfold eOf; rw [if_neg (by omega)]
    rw [if_neg (by omega), if_neg (by omega), j1, ee]
    by_cases hc : 1 * (s.length - 2) <= 4096 /\ (s.drop 2).all (validE 1) = true
    ·rw [if_pos hc, if_pos (eok.2 ⟨⟨ha0, .inl h98⟩, by rw [ee]; exact hc⟩)]
    ·rw [if_neg hc, if_neg (fun h => hc (by have := (eok.1 h).2; rw [ee] at this; exact this))]
   ·by_cases h120 : ((List.getD s 1 0).toNat : Int) = 120
    ·have ee : eOf s = 4 := by unfold eOf; rw [if_pos h120]
     rw [if_pos h98, if_neg (by omega), if_pos h120, j4, ee]
     by_cases hc : 4 * (s.length - 2) <= 4096 /\ (s.drop 2).all (validE 4) = true
     ·rw [if_pos hc, if_pos (eok.2 ⟨⟨ha0, .inr h120⟩, by rw [ee]; exact hc⟩)]
     ·rw [if_neg hc, if_neg (fun h => hc (by have := (eok.1 h).2; rw [ee] at this; exact this))]
    ·rw [if_pos h98, if_pos h120, if_neg (fun h => by have := (eok.1 h).1.2; omega)]
  ·rw [if_neg ha0, if_neg (fun h => ha0 (eok.1 h).1.1)]
 ·rw [if_neg (by omega), if_neg (fun h => by
   unfold okT hdOk at h
   rw [Bool.and_eq_true, Bool.and_eq_true, decide_eq_true_eq] at h
   exact h3 h.1.1.1), Ev.s3 R]
end Go.Vsi
end

section
set_option linter.unusedVariables false
set_option linter.unusedSimpArgs false
set_option synthInstance.maxSize 4096
namespace Go.Vsi
def hexC (v : Nat) : UInt8 := List.getD hexL v 0
theorem hexC_v : ∀ v : Nat, v < 16 -> hexV (hexC v).toNat = (v : Int) /\ (hexC v).toNat < 128 := by decide
theorem hexI_c (v : Nat) : UInt8.ofNat (hexI v).toNat = hexC v := by
 show UInt8.ofNat (((hexC v).toNat : Int)).toNat = hexC v
 rw [Int.toNat_natCast, UInt8.ofNat_toNat]
theorem dig_lt {ws : List Nat} {e p : Nat} : dig ws e p < 2 ^ e := Nat.mod_lt _ (Nat.pow_pos (by decide))
theorem dgs_get {ws : List Nat} {e : Nat} : ∀ (k j : Nat), j < k -> List.getD (bytesStr (dgs ws e k)) (k - 1 - j) 0 = hexC (dig ws e (e * j))
 | 0, j, h => by omega
 | k + 1, j, h => by
  rw [dgs]
  show List.getD (UInt8.ofNat (hexI (dig ws e (e * k))).toNat :: bytesStr (dgs ws e k)) _ 0 = _
  by_cases hj : j = k
  ·subst hj
   rw [show j + 1 - 1 - j = 0 from by omega, List.getD_cons_zero, hexI_c]
  ·rw [show k + 1 - 1 - j = (k - 1 - j) + 1 from by omega, List.getD_cons_succ]
   exact dgs_get k j (by omega)
theorem dgs_mem {ws : List Nat} {e : Nat} {c : UInt8} : ∀ k, c ∈ bytesStr (dgs ws e k) -> ∃ v, v < 2 ^ e /\ c = hexC v
 | 0, h => by cases h
 | k + 1, h => by
  rw [dgs] at h
  rcases List.mem_cons.1 (show c ∈ UInt8.ofNat (hexI (dig ws e (e * k))).toNat :: bytesStr (dgs ws e k) from h) with h | h
  ·exact ⟨_, dig_lt, by rw [h, hexI_c]⟩
  ·exact dgs_mem k h
theorem dgs_bit {ws : List Nat} {e : Nat} (he : e = 1 \/ e = 4) {k b : Nat} (hb : b < e * k) : dbit (bytesStr (dgs ws e k)) e b = bit ws b := by
 have hj : b / e < k := by rcases he with rfl | rfl <;> omega
 have hl : (bytesStr (dgs ws e k)).length = k := by rw [bytesStr_len, dgs_len]
 have h16 : dig ws e (e * (b / e)) < 16 := by
  have := dig_lt (ws := ws) (e := e) (p := e * (b / e))
  rcases he with rfl | rfl <;> omega
 unfold dbit dv
 rw [hl, dgs_get k _ hj, (hexC_v _ h16).1, Int.toNat_natCast, dig, Nat.testBit_mod_two_pow, Nat.testBit_shiftRight, bit]
 have h1 : b % e < e := by rcases he with rfl | rfl <;> omega
 have h2 : e * (b / e) / 64 = b / 64 := by rcases he with rfl | rfl <;> omega
 have h3 : e * (b / e) % 64 + b % e = b % 64 := by rcases he with rfl | rfl <;> omega
 rw [decide_eq_true h1, Bool.true_and, h2, h3]
theorem wtx_e {ws : List Nat} {e k : Nat} {a : UInt8} (ha : a.toNat < 128) (he : e = 1 \/ e = 4) (hk : 1 <= k) (h4 : e * k <= 4096) (hae : a.toNat = if e = 4 then 120 else 98) (ho : Ok ((e * k : Nat) : Int) ws) {s : List UInt8} (es : s = 35 :: a :: bytesStr (dgs ws e k)) :
  (∀ c ∈ s, c.toNat < 128) /\ okT s = true /\ eOf s * (s.length - 2) = e * k /\ W (rdW (eOf s) (s.drop 2)) = W ws := by
 have hl : (bytesStr (dgs ws e k)).length = k := by rw [bytesStr_len, dgs_len]
 have hle : 2 ^ e <= 16 := by rcases he with rfl | rfl <;> decide
 have hn : s.length = k + 2 := by rw [es, List.length_cons, List.length_cons, hl]
 have hd : s.drop 2 = bytesStr (dgs ws e k) := by rw [es]; rfl
 have h0 : List.getD s 0 0 = 35 := by rw [es]; rfl
 have h1 : List.getD s 1 0 = a := by rw [es]; rfl
 have ee : eOf s = e := by
  unfold eOf
  rw [h1, hae]
  rcases he with rfl | rfl <;> rfl
 have hee : ((a.toNat : Nat) : Int) = 98 \/ ((a.toNat : Nat) : Int) = 120 := by
  rw [hae]; rcases he with rfl | rfl <;> simp
 refine ⟨fun c hc => ?_, ?_, ?_, ?_⟩
 ·rw [es] at hc
  rcases List.mem_cons.1 hc with rfl | hc
  ·decide
  ·rcases List.mem_cons.1 hc with rfl | hc
   ·exact ha
   ·obtain ⟨v, hv, rfl⟩ := dgs_mem k hc
    exact (hexC_v v (by omega)).2
 ·unfold okT hdOk
  rw [ee, hd, h0, h1, hn, Bool.and_eq_true, Bool.and_eq_true, decide_eq_true_eq, decide_eq_true_eq, List.all_eq_true]
  refine ⟨⟨⟨by omega, by decide, hee⟩, by rw [Nat.add_sub_cancel]; exact h4⟩, fun c hc => ?_⟩
  obtain ⟨v, hv, rfl⟩ := dgs_mem k hc
  have := (hexC_v v (by omega)).1
  unfold validE
  rw [this]
  exact decide_eq_true ⟨by omega, by omega⟩
 ·rw [ee, hn, Nat.add_sub_cancel]
 ·rw [ee, hd, rdW, hl]
  congr 1
  exact (pk_of ho fun b hb => (dgs_bit he hb).symm).symm
theorem wtx_rt {w : Nat} {ws : List Nat} (ho : Ok (w : Int) ws) {s : List UInt8} (es : s = wtx w (W ws)) :
  (∀ c ∈ s, c.toNat < 128) /\ okT s = true /\ eOf s * (s.length - 2) = w /\ W (rdW (eOf s) (s.drop 2)) = W ws := by
 have h1 := ho.lo
 have h2 := ho.hi
 rw [wtx, if_pos ho.bits, Int.toNat_natCast, wN_W, wtxI] at es
 by_cases h4 : w % 4 = 0
 ·rw [if_pos h4] at es
  have ew : 4 * (w / 4) = w := by omega
  have := wtx_e (a := 120) (by decide) (.inr rfl) (k := w / 4) (by omega) (by omega) rfl (by rw [ew]; exact ho) es
  rw [ew] at this; exact this
 ·rw [if_neg h4] at es
  have ew : 1 * w = w := by omega
  have := wtx_e (a := 98) (by decide) (.inl rfl) (k := w) (by omega) (by omega) rfl (by rw [ew]; exact ho) es
  rw [ew] at this; exact this
theorem rdW_ok {s : List UInt8} (h : okT s = true) : Ok ((eOf s * (s.length - 2) : Nat) : Int) (rdW (eOf s) (s.drop 2)) := by
 unfold okT hdOk at h
 rw [Bool.and_eq_true, Bool.and_eq_true, decide_eq_true_eq, decide_eq_true_eq] at h
 have h1 := h.1.1.1
 have h2 := h.1.2
 have h3 : 1 <= eOf s * (s.length - 2) := by rcases eOf_or s with e | e <;> rw [e] <;> omega
 rw [rdW, List.length_drop]
 exact pk_ok _ h3 h2
theorem wtx_ascii (b : Int) {l : List Int} (hl : Wd l) : ∀ c ∈ wtx b l, c.toNat < 128 := by
 by_cases h : bitsOk b l = true
 ·obtain ⟨ws, rfl, ho⟩ := bitsOk_ok hl h
  have h1 := ho.lo
  obtain ⟨w, rfl⟩ : ∃ w : Nat, b = (w : Int) := ⟨b.toNat, by omega⟩
  exact (wtx_rt ho rfl).1
 ·rw [wtx, if_neg h]; intro c hc; cases hc
end Go.Vsi
end

section
set_option linter.unusedVariables false
set_option linter.unusedSimpArgs false
namespace Go.Vsi
def Bytes (bs : List Int) : Prop := (∀ x ∈ bs, 0 <= x /\ x < 256) /\ (bs.length : Int) <= 4611686018427387904
def Pos (bs : List Int) (p : Int) : Prop := 0 <= p /\ p <= (bs.length : Int)
theorem rd_in {bs : List Int} {P : Int -> Prop} (h : ∀ x ∈ bs, P x) {i : Nat} (hi : i < bs.length) : P (rd bs i) := by
 simp only [rd, List.getD_eq_getElem?_getD, List.getElem?_eq_getElem hi, Option.getD_some]
 exact h _ (List.getElem_mem hi)
theorem big_wp {a : List Int} {R : Nat -> Bool -> Prop} (h : Ev fun n => R n (decide ((a.length : Int) > 1048576))) : Ev fun n => Z6.c n a (R n) := by
 refine Ev.succ ?_; simp only [Z6.c, Z6.w]; exact h.shift
theorem open_wp {bs : List Int} {R : Nat -> List Int -> Int -> Prop} (h : Ev fun n => R n bs 0) : Ev fun n => Z20.c n bs (R n) := by
 refine Ev.succ ?_; simp only [Z20.c, Z20.w]; exact h.shift
theorem next_wp {bs : List Int} {p : Int} {R : Nat -> Int -> List Int -> Int -> Prop} (hb : Bytes bs) (hp : Pos bs p) (h : ∀ r q, 0 <= r -> r < 256 -> Pos bs q -> Ev (fun n => R n r bs q)) :
  Ev (fun n => Z24.c n bs p (R n)) := by
 obtain ⟨hp0, hp1⟩ := hp
 have hl := hb.2
 refine Ev.succ ?_
 simp only [Z24.c, Z24.w]
 refine Ev.ite (fun hc => (h 0 p (by omega) (by omega) ⟨hp0, hp1⟩).shift) fun hc => ?_
 simp only [decide_eq_true_eq] at hc
 have hr := rd_in hb.1 (i := p.toNat) (by omega)
 simp (disch := omega) only [wrap64, Int.add_sub_cancel]
 exact Ev.grd (by simp; omega) (h _ _ hr.1 hr.2 ⟨by omega, by omega⟩).shift
theorem tmod_in {x m : Int} (hx : 0 <= x) (hm : 1 <= m) : 0 <= Int.tmod x m /\ Int.tmod x m < m := by
 rw [tmodP hx]; exact ⟨Int.emod_nonneg _ (by omega), Int.emod_lt_of_pos _ (by omega)⟩
theorem below_wp {bs : List Int} {p m : Int} {R : Nat -> Int -> List Int -> Int -> Prop} (hb : Bytes bs) (hp : Pos bs p) (hm : 1 <= m) (h : ∀ r q, 0 <= r -> r < m -> Pos bs q -> Ev (fun n => R n r bs q)) :
  Ev (fun n => Z21.c n bs p m (R n)) := by
 refine Ev.succ ?_
 simp only [Z21.c, Z21.w]
 refine Ev.ite (fun hc => (h 0 p (by omega) (by omega) hp).shift) fun hc => Ev.ite (fun hc' => next_wp hb hp fun r q h1 h2 h3 => ?_) fun hc' => next_wp hb hp fun r q h1 h2 h3 => next_wp hb h3 fun r' q' h1' h2' h3' => ?_
 ·have := tmod_in (x := r) (m := m) h1 hm
  exact Ev.grd (by simp; omega) (h _ _ this.1 this.2 h3).shift
 ·simp (disch := omega) only [wrap64]
  have := tmod_in (x := r * 256 + r') (m := m) (by omega) hm
  exact Ev.grd (by simp; omega) (h _ _ this.1 this.2 h3').shift
theorem once_wp {bs : List Int} {p m : Int} {R : Nat -> Bool -> List Int -> Int -> Prop} (hb : Bytes bs) (hp : Pos bs p) (hm : 1 <= m) (h : ∀ r q, Pos bs q -> Ev (fun n => R n r bs q)) :
  Ev (fun n => Z27.c n bs p m (R n)) := by
 refine Ev.succ ?_
 simp only [Z27.c, Z27.w]
 exact below_wp hb hp hm fun r q _ _ h3 => (h _ q h3).shift
theorem wide_wp {bs : List Int} {p : Int} {R : Nat -> Int -> List Int -> Int -> Prop} (hb : Bytes bs) (hp : Pos bs p) (h : ∀ r q, 1 <= r -> r <= 200 -> Pos bs q -> Ev (fun n => R n r bs q)) :
  Ev (fun n => Z28.c n bs p (R n)) := by
 refine Ev.succ ?_
 simp only [Z28.c, Z28.w]
 refine below_wp hb hp (by omega) fun r q h1 h2 h3 => Ev.ite (fun hc => below_wp hb h3 (by omega) fun r' q' h1' h2' h3' => ?_) fun hc => Ev.ite (fun hc' => below_wp hb h3 (by omega) fun r' q' h1' h2' h3' => ?_) fun hc' => below_wp hb h3 (by omega) fun r' q' h1' h2' h3' => ?_
 ·have hr : 1 <= rd ([63, 64, 65, 127, 128, 129, 200] : List Int) r'.toNat /\ rd ([63, 64, 65, 127, 128, 129, 200] : List Int) r'.toNat <= 200 :=
   rd_in (P := fun x => 1 <= x /\ x <= 200) (by decide) (by simp; omega)
  exact Ev.grd (by simp; omega) (h _ _ hr.1 hr.2 h3').shift
 ·simp (disch := omega) only [wrap64]; exact (h _ _ (by omega) (by omega) h3').shift
 ·simp (disch := omega) only [wrap64]; exact (h _ _ (by omega) (by omega) h3').shift
theorem word_lp_wp {bs : List Int} (hb : Bytes bs) : ∀ (m : Nat) (x4 : Int), x4 + m = 8 -> 0 <= x4 -> ∀ (x3 p : Int), 0 <= x3 -> x3 < 18446744073709551616 -> Pos bs p -> ∀ R : Nat -> Int -> List Int -> Int -> Prop,
  (∀ r q, 0 <= r -> r < 18446744073709551616 -> Pos bs q -> Ev (fun n => R n r bs q)) -> Ev (fun n => Z29.l3 n x3 x4 bs p (R n))
 | 0, x4, h, h0, x3, p, h3, h3', hp, R, hR => by
  refine Ev.succ ?_
  simp only [Z29.l3, Z29.l3.b]
  exact Ev.neg (by simp; omega) (hR _ _ h3 h3' hp).shift
 | m + 1, x4, h, h0, x3, p, h3, h3', hp, R, hR => by
  refine Ev.succ ?_
  simp only [Z29.l3, Z29.l3.b]
  refine Ev.pos (by simp; omega) (next_wp hb hp fun r q h1 h2 hq => ?_)
  rw [wrap64 (by omega) (by omega)]
  have := ibitsU .or (IntKind.wrap .u64 (x3 * 2 ^ 8)) (IntKind.wrap .u64 r)
  exact word_lp_wp hb m (x4 + 1) (by omega) (by omega) _ q this.1 this.2 hq (fun n => R (n + 1)) fun r q h1 h2 hq => (hR r q h1 h2 hq).shift
theorem word_wp {bs : List Int} {p : Int} {R : Nat -> Int -> List Int -> Int -> Prop} (hb : Bytes bs) (hp : Pos bs p) (h : ∀ r q, 0 <= r -> r < 18446744073709551616 -> Pos bs q -> Ev (fun n => R n r bs q)) :
  Ev (fun n => Z29.c n bs p (R n)) := by
 refine Ev.succ ?_
 simp only [Z29.c, Z29.w]
 exact word_lp_wp hb 8 0 (by omega) (by omega) 0 p (by omega) (by omega) hp (fun n => R (n + 1)) fun r q h1 h2 hq => (h r q h1 h2 hq).shift
theorem wrapW (x : Int) : IntKind.wrap .u64 (IntKind.wrap .i64 x) = x % 18446744073709551616 := by
 simp only [IntKind.wrap, IntKind.bits, IntKind.signed]
 simp; split <;> omega
def In64 (r : Int) : Prop := -9223372036854775808 <= r /\ r < 9223372036854775808
theorem near_wp {bs : List Int} {p a b : Int} {R : Nat -> Int -> List Int -> Int -> Prop} (hb : Bytes bs) (hp : Pos bs p) (ha : In64 a) (hbb : In64 b) (hab : b - a < 9223372036854775808)
  (h : ∀ r q, In64 r -> (a <= b -> a <= r /\ r <= b) -> Pos bs q -> Ev (fun n => R n r bs q)) : Ev (fun n => Z23.c n bs p a b (R n)) := by
 obtain ⟨a1, a2⟩ := ha; obtain ⟨b1, b2⟩ := hbb
 refine Ev.succ ?_
 simp only [Z23.c, Z23.w]
 refine below_wp hb hp (by omega) fun r q h1 h2 h3 => Ev.ite (fun hc => (h a q ⟨a1, a2⟩ (fun _ => by omega) h3).shift) fun hc => Ev.ite (fun hc => (h b q ⟨b1, b2⟩ (fun _ => by omega) h3).shift) fun hc' =>
  Ev.ite (fun hc => (h a q ⟨a1, a2⟩ (fun _ => by omega) h3).shift) fun hc'' => word_wp hb h3 fun w q' w1 w2 h3' => ?_
 simp only [decide_eq_true_eq] at hc''
 rw [wrap64 (x := b - a) (by omega) (by omega), wrapW]
 have e : (b - a + 1) % 18446744073709551616 = b - a + 1 := by omega
 rw [e]
 have hd : 0 <= Int.fdiv w (2 ^ 1) := by rw [fdivP (by decide)]; omega
 have ht := tmod_in (x := Int.fdiv w (2 ^ 1)) (m := b - a + 1) hd (by omega)
 generalize Int.tmod (Int.fdiv w (2 ^ 1)) (b - a + 1) = t at ht ⊢
 rw [wrap64 (x := t) (by omega) (by omega), wrap64 (x := a + t) (by omega) (by omega)]
 exact Ev.grd (by simp; omega) (h _ _ ⟨by omega, by omega⟩ (fun _ => by omega) h3').shift
theorem off_wp {bs : List Int} {p a b : Int} {R : Nat -> Int -> List Int -> Int -> Prop} (hb : Bytes bs) (hp : Pos bs p) (ha : In64 a) (hbb : In64 b) (hab : b - a < 9223372036854775808)
  (h : ∀ r q, In64 r -> Pos bs q -> Ev (fun n => R n r bs q)) : Ev (fun n => Z26.c n bs p a b (R n)) := by
 refine Ev.succ ?_
 simp only [Z26.c, Z26.w]
 refine once_wp hb hp (by omega) fun o q hq => Ev.ite (fun hc => below_wp hb hq (by omega) fun r q' h1 h2 hq' => ?_) fun hc => near_wp hb hq ha hbb hab fun r q' h1 _ hq' => (h r q' h1 hq').shift
 refine Ev.grd (by simp; omega) (h _ _ ?_ hq').shift
 refine rd_in (P := In64) ?_ (by simp; omega)
 intro x hx
 simp only [List.mem_cons, List.not_mem_nil, or_false] at hx
 rcases hx with rfl | rfl | rfl | rfl
 ·exact wrap64r _
 ·exact wrap64r _
 ·exact ⟨by omega, by omega⟩
 ·exact ⟨by omega, by omega⟩
theorem Wd.set {ws : List Int} (h : Wd ws) {i : Nat} {x : Int} (h0 : 0 <= x) (h1 : x < 18446744073709551616) : Wd (ws.set i x) := by
 intro y hy
 rcases List.mem_or_eq_of_mem_set hy with h' | rfl
 ·exact h y h'
 ·exact ⟨h0, by omega⟩
theorem Wd.rep (n : Nat) : Wd (List.replicate n 0) := by
 intro y hy
 rw [List.eq_of_mem_replicate hy]; omega
theorem from_lp_wp {l : List Int} (hl : l.length <= 4096) (x7 : List Int) (x8 x9 : Int) : ∀ (m : Nat) (x5 : Int), x5 + m = l.length -> 0 <= x5 -> ∀ (ws : List Int), ws.length = (l.length + 63) / 64 -> Wd ws ->
  ∀ R : Nat -> List Int -> List Int -> Int -> Int -> Prop, (∀ ws', ws'.length = (l.length + 63) / 64 -> Wd ws' -> Ev (fun n => R n ws' x7 x8 x9)) -> Ev (fun n => Z16.l5 n l x7 x8 x9 x5 ws (R n))
 | 0, x5, h, h0, ws, hw, hu, R, hR => by
  refine Ev.succ ?_
  simp only [Z16.l5, Z16.l5.b]
  exact Ev.neg (by simp; omega) (hR ws hw hu).shift
 | m + 1, x5, h, h0, ws, hw, hu, R, hR => by
  refine Ev.succ ?_
  simp only [Z16.l5, Z16.l5.b]
  refine Ev.pos (by simp; omega) ?_
  rw [tdivP h0, tmodP h0, wrap64 (x := x5 / 64) (by omega) (by omega), wrapU (x := x5 % 64) (by omega) (by omega), wrap64 (x := x5 + 1) (by omega) (by omega)]
  refine Ev.grd (by simp; omega) (Ev.grd (by simp; omega) (Ev.grd (by simp; omega) (Ev.grd (by simp; omega) ?_)))
  have i := ibitsU .or (rd ws (Int.toNat (x5 / 64))) (IntKind.wrap .u64 ((IntKind.wrap .u64 (rd l (Int.toNat x5))) * 2 ^ (Nat.min (Int.toNat (x5 % 64)) 64)))
  exact from_lp_wp hl x7 x8 x9 m (x5 + 1) (by omega) (by omega) _ (by rw [List.length_set]; exact hw) (hu.set i.1 i.2) (fun n => R (n + 1)) fun ws' h1 h2 => (hR ws' h1 h2).shift
theorem from_wp {l : List Int} {R : Nat -> Int -> List Int -> Bool -> Prop} (h1 : 1 <= l.length) (h2 : l.length <= 4096) (h : ∀ ws, ws.length = (l.length + 63) / 64 -> Wd ws -> Ev (fun n => R n l.length ws true)) :
  Ev (fun n => Z16.c n l (R n)) := by
 refine Ev.succ ?_
 simp only [Z16.c, Z16.w, Z16.j0]
 refine Ev.pos (by simp; omega) (Ev.neg (by simp; omega) ?_)
 have e : IntKind.wrap .i64 (Int.tdiv (IntKind.wrap .i64 ((l.length : Int) + 63)) 64) = (((l.length + 63) / 64 : Nat) : Int) := by
  rw [wrap64 (x := (l.length : Int) + 63) (by omega) (by omega), tdivP (by omega), wrap64 (by omega) (by omega)]; omega
 rw [e]
 refine Ev.grd (by simp; omega) ?_
 rw [Int.toNat_natCast]
 exact from_lp_wp h2 _ _ _ l.length 0 (by omega) (by omega) _ (by simp) (Wd.rep _) (fun n y22 y23 y24 y25 => R (n + 1) y25 y22 true) fun ws h3 h4 => (h ws h3 h4).shift
theorem bits_lp_wp {x10 x11 x12 x17 x18 : Int} {x15 x16 : List Int} (h10 : x10 <= 4096) : ∀ (m : Nat) (x13 : Int), x13 + m = x10 -> 0 <= x13 -> ∀ l : List Int, (l.length : Int) = x13 ->
  ∀ R : Nat -> List Int -> List Int -> List Int -> Int -> Int -> Prop, (∀ l' : List Int, (l'.length : Int) = x10 -> Ev (fun n => R n l' x15 x16 x17 x18)) -> Ev (fun n => Z22.l5 n x10 x11 x12 x15 x16 x17 x18 x13 l (R n))
 | 0, x13, h, h0, l, hl, R, hR => by
  refine Ev.succ ?_
  simp only [Z22.l5, Z22.l5.b]
  exact Ev.neg (by simp; omega) (hR l (by omega)).shift
 | m + 1, x13, h, h0, l, hl, R, hR => by
  have e : ∀ v : Int, Ev (fun n => Z22.l5 n x10 x11 x12 x15 x16 x17 x18 (x13 + 1) (l ++ [v]) (R (n + 1))) :=
   fun v => bits_lp_wp h10 m (x13 + 1) (by omega) (by omega) (l ++ [v]) (by simp; omega) (fun n => R (n + 1)) fun l' h' => (hR l' h').shift
  refine Ev.succ ?_
  simp only [Z22.l5, Z22.l5.b, Z22.j4]
  rw [wrap64 (x := x13 * 7) (by omega) (by omega), tmodP (by omega), wrapU (by omega) (by omega), wrap64 (x := x13 + 1) (by omega) (by omega)]
  refine Ev.pos (by simp; omega) (Ev.grd (by simp; omega) (Ev.ite (fun _ => Ev.ite (fun _ => ?_) fun _ => ?_) fun _ => Ev.ite (fun _ => ?_) fun _ => ?_))
  all_goals exact Ev.grd (by simp; omega) (e _)
theorem bits_wp {bs : List Int} {p m : Int} {R : Nat -> Int -> List Int -> List Int -> Int -> Prop} (hb : Bytes bs) (hp : Pos bs p) (h1 : 1 <= m) (h2 : m <= 4096)
  (h : ∀ ws q, (ws.length : Int) = (m + 63) / 64 -> Wd ws -> Pos bs q -> Ev (fun n => R n m ws bs q)) : Ev (fun n => Z22.c n bs p m (R n)) := by
 refine Ev.succ ?_
 simp only [Z22.c, Z22.w]
 refine word_wp hb hp fun w q _ _ hq => below_wp hb hq (by omega) fun r q' _ _ hq' => bits_lp_wp h2 m.toNat 0 (by omega) (by omega) [] rfl (fun n y33 y34 y35 y36 y37 => Z16.c n y33 (fun r38 r39 r40 => R (n + 1) r38 r39 y35 y36)) fun l hl => ?_
 refine from_wp (by omega) (by omega) fun ws h3 h4 => ?_
 rw [hl]
 exact (h ws q' (by omega) h4 hq').shift
end Go.Vsi
end

section
set_option linter.unusedVariables false
set_option linter.unusedSimpArgs false
set_option synthInstance.maxSize 4096
namespace Go.Vsi
theorem turnedB_lp {l : List Int} (hl : l.length <= 1000000) : ∀ (k : Nat) (o : List Int), k <= l.length -> o = (l.drop k).reverse -> ∀ Kx : Nat -> List Int -> Prop,
  (Ev (fun n => Z30.l3 n l ((k : Int) - 1) o (Kx n)) ↔ Ev (fun n => Kx n l.reverse))
 | 0, o, hk, ho, Kx => by
  refine Ev.suc.trans ?_
  simp only [Z30.l3, Z30.l3.b]
  rw [Ev.iteI, if_neg (by simp), Ev.s1 Kx, ho]; rfl
 | k + 1, o, hk, ho, Kx => by
  have hlen : o.length = l.length - (k + 1) := by rw [ho, List.length_reverse, List.length_drop]
  have e0 : o ++ [rd l k] = (l.drop k).reverse := by
   rw [List.drop_eq_getElem_cons (show k < l.length by omega), List.reverse_cons, <- ho, rd, List.getD_eq_getElem?_getD, List.getElem?_eq_getElem (show k < l.length by omega)]; rfl
  have ih := turnedB_lp hl k (o ++ [rd l k]) (by omega) e0 (fun n => Kx (n + 1))
  refine Ev.suc.trans ?_
  simp only [Z30.l3, Z30.l3.b]
  rw [show ((k + 1 : Nat) : Int) - 1 = (k : Int) from by omega, wrap64 (x := (k : Int) - 1) (by omega) (by omega), Int.toNat_natCast, Ev.iteI, if_pos (by simp)]
  have g1 : (0 : Int) <= (k : Int) /\ (k : Int) < (l.length : Int) := ⟨by omega, by omega⟩
  have g2 : o.length + ([rd l k] : List Int).length <= 35184372088832 := by simp; omega
  simp only [grd_dec2 g1, grd_dec g2]
  exact ih.trans (Ev.s1 Kx _)
theorem turnedB_ev {l : List Int} (hl : l.length <= 1000000) (R : Nat -> List Int -> Prop) : Ev (fun n => Z30.c n l (R n)) ↔ Ev (fun n => R n l.reverse) := by
 refine Ev.suc.trans ?_
 simp only [Z30.c, Z30.w]
 rw [wrap64 (by omega) (by omega)]
 exact (turnedB_lp hl l.length [] (Nat.le_refl _) (by simp) (fun n => R (n + 1))).trans (Ev.s1 R _)
theorem l1Hex_ev (c : UInt8) (R : Nat -> Int -> Prop) : Ev (fun n => Z17.c n (c.toNat : Int) (R n)) ↔ Ev (fun n => R n (hexV c.toNat)) := by
 have hc := c.toNat_lt
 have dig_ev : ∀ R : Nat -> Bool -> Prop, Ev (fun n => Z15.c n (c.toNat : Int) (R n)) ↔ Ev (fun n => R n (decide (48 <= c.toNat /\ c.toNat <= 57))) := fun R => by
  refine Ev.suc.trans ?_
  simp only [Z15.c, Z15.w, Ev.iteI, decide_eq_true_eq, Ev.s1 R]
  split
  ·rw [show decide ((c.toNat : Int) <= 57) = decide (48 <= c.toNat /\ c.toNat <= 57) from by rw [decide_eq_decide]; omega]
  ·rw [decide_eq_false (by omega)]
 refine Ev.suc.trans ?_
 simp only [Z17.c, Z17.w]
 rw [dig_ev]
 simp only [Ev.iteI, decide_eq_true_eq]
 unfold hexV
 by_cases h1 : 48 <= c.toNat /\ c.toNat <= 57
 ·rw [if_pos h1, if_pos h1, wrap8 (by omega) (by omega), wrap64 (by omega) (by omega), Ev.s1 R]
 ·rw [if_neg h1, if_neg h1]
  by_cases h2 : 97 <= c.toNat /\ c.toNat <= 102
  ·rw [if_pos h2, if_pos (by omega), if_pos (by omega), wrap8 (x := (c.toNat : Int) - 97) (by omega) (by omega), wrap64 (x := (c.toNat : Int) - 97) (by omega) (by omega), wrap64 (by omega) (by omega), Ev.s1 R]
   rw [show (c.toNat : Int) - 97 + 10 = (c.toNat : Int) - 87 from by omega]
  ·rw [if_neg h2]
   split
   ·rw [if_neg (by omega), Ev.s1 R]
   ·rw [Ev.s1 R]
theorem four_wp {x32 : List UInt8} {x33 x34 : Int} {x37 : List Int} {x38 : Int} : ∀ (m : Nat) (o : List Int), m <= 4 -> o.length + m <= 1000000 -> ∀ Kx : Nat -> List UInt8 -> Int -> List Int -> List Int -> Int -> Prop,
  (∀ y : List Int, y.length = o.length + m -> Ev (fun n => Kx n x32 x33 y x37 x38)) -> Ev (fun n => Z12.l13 n x32 x33 x34 x37 x38 ((m : Int) - 1) o (Kx n))
 | 0, o, hm, ho, Kx, h => by
  refine Ev.succ ?_
  simp only [Z12.l13, Z12.l13.b]
  exact Ev.neg (by simp) (h o rfl).shift
 | m + 1, o, hm, ho, Kx, h => by
  refine Ev.succ ?_
  simp only [Z12.l13, Z12.l13.b]
  rw [show ((m + 1 : Nat) : Int) - 1 = (m : Int) from by omega, wrapU (x := (m : Int)) (by omega) (by omega), wrap64 (x := (m : Int) - 1) (by omega) (by omega)]
  refine Ev.pos (by simp) (Ev.grd (by simp) (Ev.grd (by simp; omega) ?_))
  exact four_wp m _ (by omega) (by simp; omega) (fun n => Kx (n + 1)) fun y hy => (h y (by rw [hy]; simp; omega)).shift
theorem readS_lp {s : List UInt8} (hl : s.length <= 4098) (h2 : 2 <= s.length) (hc1 : ((List.getD s 1 0).toNat : Int) = 98 \/ ((List.getD s 1 0).toNat : Int) = 120) {x69 : List Int} {x70 : Int} :
  ∀ (m i : Nat), i + m = s.length -> 2 <= i -> ∀ o : List Int, o.length = eOf s * (i - 2) -> ∀ (Kx : Nat -> List Int -> List Int -> Int -> Prop) (Kr : Nat -> Bool -> List Int -> Int -> Prop),
  ((s.drop i).all (validE (eOf s)) = true -> ∀ y : List Int, y.length = eOf s * (s.length - 2) -> Ev (fun n => Kx n y x69 x70)) -> ((s.drop i).all (validE (eOf s)) = false -> Ev (fun n => Kr n false [] 0)) ->
  Ev (fun n => Z12.l5 n s i o x69 x70 (Kx n) (Kr n))
 | 0, i, hi, hi2, o, ho, Kx, Kr, hx, hr => by
  refine Ev.succ ?_
  simp only [Z12.l5, Z12.l5.b]
  refine Ev.neg (by simp; omega) (hx (by rw [List.drop_eq_nil_of_le (by omega)]; rfl) o (by rw [ho, show i - 2 = s.length - 2 from by omega])).shift
 | m + 1, i, hi, hi2, o, ho, Kx, Kr, hx, hr => by
  obtain ⟨c, ec⟩ : ∃ c, c = List.getD s i 0 := ⟨_, rfl⟩
  have hdrop : s.drop i = c :: s.drop (i + 1) := by
   rw [List.drop_eq_getElem_cons (show i < s.length by omega), ec, List.getD_eq_getElem?_getD, List.getElem?_eq_getElem (show i < s.length by omega)]; rfl
  have hall : (s.drop i).all (validE (eOf s)) = (validE (eOf s) c && (s.drop (i + 1)).all (validE (eOf s))) := by rw [hdrop, List.all_cons]
  have hob : o.length <= 20000 := by rw [ho]; rcases eOf_or s with e | e <;> rw [e] <;> omega
  have hv := hexV_lt c.toNat
  have next : validE (eOf s) c = true -> ∀ y : List Int, y.length = eOf s * (i + 1 - 2) -> Ev (fun n => Z12.l5 n s ((i : Int) + 1) y x69 x70 (Kx (n + 1)) (Kr (n + 1))) := fun hvc y hy => by
   have := readS_lp hl h2 hc1 (x69 := x69) (x70 := x70) m (i + 1) (by omega) (by omega) y hy (fun n => Kx (n + 1)) (fun n => Kr (n + 1)) (fun ha y hy => (hx (by rw [hall, hvc, ha]; rfl) y hy).shift) (fun ha => (hr (by rw [hall, hvc, ha]; rfl)).shift)
   rw [Int.natCast_add, Int.natCast_one] at this
   exact this
  have bad : validE (eOf s) c = false -> Ev (fun n => Kr (n + 1) false [] 0) := fun hvc => (hr (by rw [hall, hvc]; rfl)).shift
  refine Ev.succ ?_
  simp only [Z12.l5, Z12.l5.b]
  refine Ev.pos (by simp; omega) (Ev.grd (by simp; omega) ?_)
  rw [Int.toNat_natCast, <- ec, l1Hex_ev]
  refine Ev.ite (fun hn => Ev.grd (by simp; omega) ?_) fun hn => bad ?_
  ·have hn' : 0 <= hexV c.toNat := by
    have := of_decide_eq_false hn; omega
   have gg : IntKind.wrap .i64 ((i : Int) + 1) = (i : Int) + 1 := wrap64 (by omega) (by omega)
   rcases hc1 with h98 | h120
   ·have ee : eOf s = 1 := by unfold eOf; rw [if_neg (by omega)]
    refine Ev.pos (decide_eq_true h98) (Ev.ite (fun hb => bad ?_) fun hb => ?_)
    ·unfold validE; rw [ee]
     have := of_decide_eq_true hb
     exact decide_eq_false (by simp; omega)
    ·have hb' : ¬ hexV c.toNat > 1 := fun h => hb (decide_eq_true h)
     simp only [Z12.j3]
     refine Ev.grd (by simp; omega) (Ev.pos (decide_eq_true h98) (Ev.grd (by simp; omega) ?_))
     rw [gg]
     refine next ?_ _ ?_
     ·unfold validE; rw [ee]; exact decide_eq_true ⟨hn', by simp; omega⟩
     ·rw [List.length_append, ho, ee]; simp; omega
   ·have ee : eOf s = 4 := by unfold eOf; rw [if_pos h120]
    have hvc : validE (eOf s) c = true := by unfold validE; rw [ee]; exact decide_eq_true ⟨hn', by simpa using hv⟩
    have n98 : ¬ (decide (((List.getD s 1 0).toNat : Int) = 98)) = true := fun h => by
     have := of_decide_eq_true h; omega
    refine Ev.neg n98 ?_
    simp only [Z12.j3]
    refine Ev.grd (by simp; omega) (Ev.neg n98 ?_)
    refine four_wp (m := 4) o (by omega) (by omega) (fun n y93 y94 y95 y96 y97 => Z12.l5 n y93 (IntKind.wrap .i64 (y94 + 1)) y95 y96 y97 (Kx (n + 1)) (Kr (n + 1))) fun y hy => ?_
    rw [gg]
    exact next hvc y (by rw [hy, ho, ee]; omega)
  ·unfold validE
   have hn' : hexV c.toNat < 0 := by
    rcases Decidable.em (hexV c.toNat < 0) with h | h
    ·exact h
    ·exact absurd (decide_eq_false h) hn
   exact decide_eq_false (by omega)
theorem readS_wp {s : List UInt8} (hl : s.length <= 100000) {R : Nat -> Int -> List Int -> Bool -> Prop} (h : ∀ w l, Ev (fun n => R n w l (okT s))) : Ev (fun n => Z12.c n s (R n)) := by
 have e4 : s.length > 4098 -> okT s = false := fun hh => by
  unfold okT
  rw [decide_eq_false (p := eOf s * (s.length - 2) <= 4096) (by rcases eOf_or s with e | e <;> rw [e] <;> omega), Bool.and_false, Bool.false_and]
 have ehd : hdOk s = false -> okT s = false := fun hh => by unfold okT; rw [hh, Bool.false_and, Bool.false_and]
 have body : s.length <= 4098 -> hdOk s = true -> Ev (fun n => Z12.j4 (R (n + 1)) s (Z12.l5 n) n) := fun h1 hh => by
  have hh' := hh
  unfold hdOk at hh'
  rw [decide_eq_true_eq] at hh'
  simp only [Z12.j4]
  refine readS_lp h1 (by omega) hh'.2.2 (s.length - 2) 2 (by omega) (by omega) [] (by simp) (fun n y107 y108 y109 => Z30.c n y107 (fun r110 => Z16.c n r110 (fun r111 r112 r113 => R (n + 1) r111 r112 r113))) (fun n y114 y115 y116 => R (n + 1) y116 y115 y114) (fun ha y hy => ?_) (fun ha => ?_)
  ·have hyl : y.length <= 20000 := by rw [hy]; rcases eOf_or s with e | e <;> rw [e] <;> omega
   have hy1 : 1 <= y.length := by rw [hy]; rcases eOf_or s with e | e <;> rw [e] <;> omega
   rw [turnedB_ev (by omega)]
   by_cases h4 : eOf s * (s.length - 2) <= 4096
   ·have eo : okT s = true := by unfold okT; rw [hh, decide_eq_true h4, ha]; rfl
    refine from_wp (by rw [List.length_reverse]; omega) (by rw [List.length_reverse, hy]; omega) fun ws _ _ => ?_
    have := h ((y.reverse.length : Nat) : Int) ws
    rw [eo] at this
    exact this.shift
   ·have eo : okT s = false := by unfold okT; rw [decide_eq_false h4, Bool.and_false, Bool.false_and]
    have := h 0 []
    rw [eo] at this
    refine Ev.succ ?_
    simp only [Z16.c, Z16.w]
    refine Ev.pos (by simp; omega) (Ev.pos (by simp; omega) (Ev.shift (P := fun n => R (n + 1) 0 [] false) this.shift))
  ·have eo : okT s = false := by unfold okT; rw [ha, Bool.and_false]
   have := h 0 []
   rw [eo] at this
   exact this.shift
 have no : okT s = false -> Ev (fun n => R (n + 1) 0 [] false) := fun eo => by
  have := h 0 []
  rw [eo] at this
  exact this.shift
 refine Ev.succ ?_
 simp only [Z12.c, Z12.w]
 refine Ev.ite (fun h3 => Ev.ite (fun h5 => ?_) fun h5 => no (e4 ?_)) fun h3 => no (ehd ?_)
 ·have h3' := of_decide_eq_false h3
  have h5' := of_decide_eq_false h5
  refine Ev.grd (by simp; omega) (Ev.ite (fun h0 => Ev.grd (by simp; omega) (Ev.ite (fun h98 => Ev.grd (by simp; omega) (Ev.ite (fun h120 => no (ehd ?_)) fun h120 => body (by omega) ?_)) fun h98 => body (by omega) ?_)) fun h0 => no (ehd ?_))
  all_goals unfold hdOk
  ·simp only [Bool.not_eq_true', decide_eq_false_iff_not] at h98 h120
   exact decide_eq_false (by omega)
  ·simp only [Bool.not_eq_true', Bool.not_eq_false', decide_eq_false_iff_not, decide_eq_true_eq, Decidable.not_not] at h98 h120 h0
   exact decide_eq_true ⟨by omega, by omega, by omega⟩
  ·simp only [Bool.not_eq_true', Bool.not_eq_false', decide_eq_false_iff_not, decide_eq_true_eq, Decidable.not_not] at h98 h0
   exact decide_eq_true ⟨by omega, by omega, by omega⟩
  ·simp only [Bool.not_eq_true', Bool.not_eq_false', decide_eq_false_iff_not, decide_eq_true_eq, Decidable.not_not] at h0
   exact decide_eq_false (by omega)
 ·rcases Decidable.em ((s.length : Int) > 4098) with h | h
  ·omega
  ·exact absurd (decide_eq_false h) h5
 ·unfold hdOk
  rcases Decidable.em ((s.length : Int) < 3) with h | h
  ·exact decide_eq_false (by omega)
  ·exact absurd (decide_eq_false h) h3
end Go.Vsi
end

section
set_option linter.unusedVariables false
set_option linter.unusedSimpArgs false
set_option synthInstance.maxSize 4096
namespace Go.Vsi
theorem sameL_lp {a b : Int} {l l' : List Int} (hl : l.length <= 1099511627776) (hll : l.length = l'.length) : ∀ (ys ys' : List Int) (x : Int), l.drop x.toNat = ys -> l'.drop x.toNat = ys' -> 0 <= x -> ∀ (Kx : Nat -> Prop) (Kr : Nat -> Bool -> Prop),
  (Ev (fun n => Z7.l4 n a l b l' x (Kx n) (Kr n)) ↔ if ys = ys' then Ev Kx else Ev (fun n => Kr n false))
 | [], [], x, h, h', h0, Kx, Kr => by
  have := drop_nil h h0
  refine Ev.suc.trans ?_
  simp (disch := omega) only [Z7.l4, Z7.l4.b, if_neg, decide_eq_true_eq, Ev.s0 Kx, if_true]
 | [], y' :: ys', x, h, h', h0, Kx, Kr => by
  have := drop_nil h h0; have := (drop_cons h' h0).1; omega
 | y :: ys, [], x, h, h', h0, Kx, Kr => by
  have := drop_nil h' h0; have := (drop_cons h h0).1; omega
 | y :: ys, y' :: ys', x, h, h', h0, Kx, Kr => by
  obtain ⟨e1, e2, e3⟩ := drop_cons h h0
  obtain ⟨_, f2, f3⟩ := drop_cons h' h0
  refine Ev.suc.trans ?_
  simp (disch := omega) only [Z7.l4, Z7.l4.b, if_pos, decide_eq_true_eq, Ev.s0 Kx, Ev.s1 Kr, grd_dec2, e2, f2, wrap64, Ev.iteI, Bool.not_eq_true', decide_eq_false_iff_not]
  rw [sameL_lp hl hll ys ys' (x + 1) e3 f3 (by omega), Ev.s0 Kx, Ev.s1 Kr]
  simp only [List.cons.injEq]
  (repeat' split) <;> first | rfl | (exfalso; simp_all; done)
theorem sameL_ev {a b : Int} {l l' : List Int} (hl : l.length <= 1099511627776) (R : Nat -> Bool -> Prop) :
  Ev (fun n => Z7.c n a l b l' (R n)) ↔ Ev (fun n => R n (decide (a = b /\ l = l'))) := by
 refine Ev.suc.trans ?_
 simp (disch := omega) only [Z7.c, Z7.w, Ev.iteI, Bool.not_eq_true', Bool.not_eq_false', decide_eq_true_eq, decide_eq_false_iff_not, Ev.s1 R]
 split
 ·split
  ·rw [decide_eq_false]; rintro ⟨_, e⟩; subst e; omega
  ·rw [sameL_lp hl (by omega) l l' 0 rfl rfl (by omega), Ev.s1 R, Ev.s1 R]
   split
   ·rw [decide_eq_true ⟨‹_›, ‹_›⟩]
   ·rw [decide_eq_false]; simp_all
 ·rw [decide_eq_false]; simp_all
end Go.Vsi
end

section
set_option linter.unusedVariables false
set_option linter.unusedSimpArgs false
set_option synthInstance.maxSize 4096
namespace Go.Vsi
theorem oddW_wp {bs : List Int} {p : Int} {R : Nat -> Int -> List Int -> List Int -> Int -> Prop} (hb : Bytes bs) (hp : Pos bs p)
  (h : ∀ w ws q, Wd ws -> Pos bs q -> Ev (fun n => R n w ws bs q)) : Ev (fun n => Z25.c n bs p (R n)) := by
 refine Ev.succ ?_
 simp only [Z25.c, Z25.w, and_self]
 refine wide_wp hb hp fun w q w1 w2 hq => bits_wp hb hq w1 (by omega) fun ws q1 hl hw hq1 => below_wp hb hq1 (by omega) fun r q2 _ _ hq2 => Ev.ite (fun _ => ?_) fun _ => Ev.ite (fun _ => ?_) fun _ => Ev.ite (fun _ => ?_) fun _ => Ev.ite (fun _ => ?_) fun _ => Ev.ite (fun _ => ?_) fun _ => ?_
 ·exact (h _ _ q2 hw hq2).shift
 ·refine Ev.grd (by simp; omega) (h _ _ q2 ?_ hq2).shift
  intro x hx
  rcases List.mem_append.mp hx with hx | hx
  ·exact hw x hx
  ·rw [List.mem_singleton.mp hx]; omega
 ·rw [wrap64 (x := (ws.length : Int) - 1) (by omega) (by omega)]
  exact word_wp hb hq2 fun y q3 y1 y2 hq3 => Ev.grd (by simp; omega) (h _ _ q3 (hw.set y1 y2) hq3).shift
 ·exact off_wp hb hq2 ⟨by omega, by omega⟩ ⟨by omega, by omega⟩ (by omega) fun y q3 hy hq3 => (h _ _ q3 hw hq3).shift
 ·exact below_wp hb hq2 (by omega) fun y q3 y1 y2 hq3 => (h _ _ q3 (Wd.rep _) hq3).shift
 ·exact (h _ _ q2 hw hq2).shift
theorem drawWriteBits_wp {bs : List Int} {R : Nat -> Int -> List Int -> Prop} (hb : Bytes bs) (h : ∀ w ws, Wd ws -> Ev (fun n => R n w ws)) : Ev (fun n => Z11.c n bs (R n)) := by
 refine Ev.succ ?_
 simp only [Z11.c, Z11.w]
 refine Ev.succ ?_
 simp only [Z9.c, Z9.w]
 exact open_wp (oddW_wp hb ⟨by omega, by omega⟩ fun w ws q hw _ => ((h w ws hw).shift (P := fun n => R n w ws)).shift)
def Txt (s : List UInt8) : Prop := (∀ c ∈ s, c.toNat < 128) /\ s.length <= 100000
theorem as_wp {x44 : List Int} {x45 : Int} : ∀ (m : Nat) (s : List UInt8), (∀ c ∈ s, c.toNat < 128) -> s.length + m <= 100000 -> ∀ Kx : Nat -> List UInt8 -> List Int -> Int -> Prop,
  (∀ s', Txt s' -> Ev (fun n => Kx n s' x44 x45)) -> Ev (fun n => Z10.l9 n x44 x45 s m (Kx n))
 | 0, s, hs, hl, Kx, h => by
  refine Ev.succ ?_
  simp only [Z10.l9, Z10.l9.b]
  exact Ev.neg (by simp) (h s ⟨hs, by omega⟩).shift
 | m + 1, s, hs, hl, Kx, h => by
  refine Ev.succ ?_
  simp only [Z10.l9, Z10.l9.b]
  rw [show ((m + 1 : Nat) : Int) - 1 = (m : Int) from by omega, wrap64 (x := (m : Int)) (by omega) (by omega)]
  refine Ev.pos (by simp) (Ev.grd (by simp; omega) ?_)
  refine as_wp m (s ++ [97]) (fun c hc => ?_) (by simp; omega) (fun n => Kx (n + 1)) fun s' hs' => (h s' hs').shift
  rcases List.mem_append.1 hc with hc | hc
  ·exact hs c hc
  ·rw [List.mem_singleton.1 hc]; decide
theorem j0_wp {bs : List Int} {p : Int} {s : List UInt8} {R : Nat -> List UInt8 -> Prop} (hb : Bytes bs) (hp : Pos bs p) (hs : Txt s) (h : ∀ s', Txt s' -> Ev (fun n => R n s')) :
  Ev (fun n => Z10.j0 (R n) n s bs p) := by
 simp only [Z10.j0]
 refine once_wp hb hp (by omega) fun b q hq => Ev.ite (fun _ => ?_) fun _ => h s hs
 obtain ⟨t, et⟩ : ∃ t : Int, t = if (s.length : Int) < 2 then (s.length : Int) else 2 := ⟨_, rfl⟩
 have ht : 0 <= t /\ t <= (s.length : Int) := by
  rw [et]; split <;> omega
 rw [<- et]
 refine Ev.grd (by simp; omega) (h _ ⟨fun c hc => hs.1 c (List.mem_of_mem_take (List.mem_of_mem_drop hc)), ?_⟩)
 have := hs.2
 rw [List.length_drop, List.length_take]; omega
theorem j1_wp {bs : List Int} {p : Int} {s : List UInt8} {R : Nat -> List UInt8 -> Prop} (hb : Bytes bs) (hp : Pos bs p) (hs : Txt s) (h : ∀ s', Txt s' -> Ev (fun n => R n s')) :
  Ev (fun n => Z10.j1 (R n) (Z10.l9 n) n s bs p) := by
 simp only [Z10.j1]
 refine once_wp hb hp (by omega) fun b q hq => Ev.ite (fun _ => below_wp hb hq (by omega) fun r q2 r1 r2 hq2 => ?_) fun _ => j0_wp hb hq hs h
 rw [wrap64 (by omega) (by omega), show 1024 + r = ((1024 + r.toNat : Nat) : Int) from by omega]
 exact as_wp _ _ (by decide) (by simp; omega) (fun n y67 y68 y69 => Z10.j0 (R n) n y67 y68 y69) fun s' hs' => j0_wp hb hq2 hs' h
theorem drawReadBits_wp {bs : List Int} {R : Nat -> List UInt8 -> Prop} (hb : Bytes bs) (h : ∀ s, Txt s -> Ev (fun n => R n s)) : Ev (fun n => Z10.c n bs (R n)) := by
 refine Ev.succ ?_
 simp only [Z10.c, Z10.w]
 refine open_wp (wide_wp hb ⟨by omega, by omega⟩ fun w q w1 w2 hq => bits_wp hb hq w1 (by omega) fun ws q1 hl hw hq1 => ?_)
 rw [writeS_ev hw]
 have hs : ∀ c ∈ wtx w ws, c.toNat < 128 := wtx_ascii w hw
 have hn := wtx_len w ws
 have hR : ∀ s', Txt s' -> Ev (fun n => R (n + 1) s') := fun s' hs' => (h s' hs').shift
 generalize wtx w ws = s at *
 have key : ∀ (bs' : List Int) (k : Int) (i : Nat), 0 <= k -> k <= (s.length : Int) -> i < 9 ->
   Txt (((List.drop 0 (List.take (Int.toNat k) s)) ++ (rd ([([48] : List UInt8), ([49] : List UInt8), ([50] : List UInt8), ([103] : List UInt8), ([102] : List UInt8), ([70] : List UInt8), ([35] : List UInt8), ([120] : List UInt8), ([98] : List UInt8)] : List (List UInt8)) i)) ++ List.drop (Int.toNat k) (List.take (Int.toNat (s.length : Int)) s))
   /\ (rd ([([48] : List UInt8), ([49] : List UInt8), ([50] : List UInt8), ([103] : List UInt8), ([102] : List UInt8), ([70] : List UInt8), ([35] : List UInt8), ([120] : List UInt8), ([98] : List UInt8)] : List (List UInt8)) i).length = 1 := fun _ k i h0 h1 h9 => by
  have hr : (rd ([([48] : List UInt8), ([49] : List UInt8), ([50] : List UInt8), ([103] : List UInt8), ([102] : List UInt8), ([70] : List UInt8), ([35] : List UInt8), ([120] : List UInt8), ([98] : List UInt8)] : List (List UInt8)) i).length = 1 /\ ∀ c ∈ (rd ([([48] : List UInt8), ([49] : List UInt8), ([50] : List UInt8), ([103] : List UInt8), ([102] : List UInt8), ([70] : List UInt8), ([35] : List UInt8), ([120] : List UInt8), ([98] : List UInt8)] : List (List UInt8)) i), c.toNat < 128 := by
   revert h9 i
   decide
  refine ⟨⟨fun c hc => ?_, ?_⟩, hr.1⟩
  ·rcases List.mem_append.1 hc with hc | hc
   ·rcases List.mem_append.1 hc with hc | hc
    ·exact hs c (List.mem_of_mem_take (List.mem_of_mem_drop hc))
    ·exact hr.2 c hc
   ·exact hs c (List.mem_of_mem_take (List.mem_of_mem_drop hc))
  ·rw [List.length_append, List.length_append, hr.1, List.length_drop, List.length_drop, List.length_take, List.length_take]; omega
 have lens : ∀ k : Int, (List.drop 0 (List.take (Int.toNat k) s)).length <= 4098 /\ (List.drop (Int.toNat k) (List.take (Int.toNat (s.length : Int)) s)).length <= 4098 := fun k => by
  rw [List.length_drop, List.length_drop, List.length_take, List.length_take]; omega
 refine once_wp hb hq1 (by omega) fun b q2 hq2 => Ev.ite (fun _ => ?_) fun _ => j1_wp hb hq2 ⟨hs, by omega⟩ hR
 rw [wrap64 (x := (s.length : Int) + 1) (by omega) (by omega)]
 refine below_wp hb hq2 (by omega) fun k q3 k0 k1 hq3 => Ev.grd (by simp; omega) (Ev.grd (by simp; omega) (Ev.and ?_ ?_))
 all_goals
  refine below_wp hb hq3 (by omega) fun i q4 i0 i1 hq4 => ?_
  have kk := key bs k (Int.toNat i) k0 (by omega) (by omega)
  have ll := lens k
  refine Ev.grd (by simp; omega) (Ev.grd (decide_eq_true (by rw [kk.2]; omega)) (Ev.grd (decide_eq_true (by rw [List.length_append, kk.2]; omega)) (j1_wp hb hq4 kk.1 hR)))
end Go.Vsi
end

section
set_option linter.unusedVariables false
set_option linter.unusedSimpArgs false
set_option synthInstance.maxSize 4096
namespace Go.Vsi
theorem bytesT_gd {code : List Int} (hc : Gd (.sl 0 (.int .u8)) code) (h : ¬ (code.length : Int) > 1048576) : Bytes code := by
 refine ⟨fun x hx => ?_, by omega⟩
 have := hc.2 x hx
 have h1 : (0 : Int) <= x := this.1
 have h2 : x <= (255 : Int) := this.2
 omega
theorem again_ev {w : Nat} {ws : List Nat} (ho : Ok (w : Int) ws) (R : Nat -> Int -> List Int -> Bool -> Prop) :
  Ev (fun n => Z1.c n (wtx w (W ws)) (R n)) ↔ Ev (fun n => R n w (W ws) true) := by
 obtain ⟨h1, h2, h3, h4⟩ := wtx_rt ho rfl
 have hn := wtx_len (w : Int) (W ws)
 rw [readI_ev h1 (by omega), if_pos h2, h3, h4]
theorem textJ0 {K : Bool -> Prop} (hK : K true) {more : List Int} (hB : Bytes more) : Ev (fun n => laws_FnBitsText.j0 K more n) := by
 simp only [laws_FnBitsText.j0]
 refine drawReadBits_wp hB fun s hs => readS_wp hs.2 fun w l => ?_
 rw [readI_ev hs.1 hs.2]
 by_cases h : okT s = true
 ·rw [if_pos h, h]
  have ho := rdW_ok h
  have hw : Wd (W (rdW (eOf s) (s.drop 2))) := wd_W ho.words
  have hlen : (W (rdW (eOf s) (s.drop 2))).length <= 1099511627776 := by
   have := ho.len; have := ho.hi; rw [W_len]; omega
  simp only [beq_self_eq_true, Bool.not_true, Bool.false_eq_true, if_false]
  rw [writeI_ev hw, again_ev ho]
  simp only [if_true]
  rw [sameL_ev hlen]
  simp only [and_self, decide_true]
  exact Ev.const hK
 ·have h' : okT s = false := by simpa using h
  rw [if_neg h, h']
  simp only [beq_self_eq_true, Bool.not_true, Bool.not_false, Bool.false_eq_true, if_false, if_true]
  exact Ev.const hK
theorem bitsText_law {code more : List Int} (hc : Gd (.sl 0 (.int .u8)) code) (hm : Gd (.sl 0 (.int .u8)) more) (K : Bool -> Prop) : True /\ (K true -> Ev (fun n => laws_FnBitsText.c n code more K)) := by
 refine ⟨trivial, fun hK => ?_⟩
 refine Ev.succ ?_
 simp only [laws_FnBitsText.c, laws_FnBitsText.w]
 refine big_wp (Ev.ite (fun h1 => ?_) fun _ => Ev.const hK)
 have hB := bytesT_gd hc (of_decide_eq_false h1)
 refine big_wp (Ev.ite (fun _ => Ev.const hK) fun h2 => ?_)
 have hM := bytesT_gd hm (by simpa using h2)
 unfold laws_FnBitsText.j1
 refine drawWriteBits_wp hB fun w l hl => ?_
 rw [specOk_ev hl]
 refine Ev.ite (fun ho => ?_) fun _ => textJ0 hK hM
 obtain ⟨ws, rfl, ok⟩ := bitsOk_ok hl ho
 have h1 := ok.lo
 have h2 := ok.hi
 have h3 := ok.len
 obtain ⟨w, rfl⟩ : ∃ k : Nat, w = (k : Int) := ⟨w.toNat, by omega⟩
 rw [writeI_ev hl, again_ev ok]
 simp only [Bool.not_true, if_true]
 rw [sameL_ev (by rw [W_len]; omega)]
 simp only [and_self, decide_true, Bool.not_true, Bool.false_eq_true, if_false]
 exact textJ0 hK hM
end Go.Vsi
end
