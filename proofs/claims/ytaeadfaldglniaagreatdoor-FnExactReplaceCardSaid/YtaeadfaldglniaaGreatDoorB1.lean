/- What the told functions answer. No statement is proved here. -/
import Derived.Test.YtaeadfaldglniaaGreatDoorA1
set_option linter.unusedVariables false
set_option linter.unusedSimpArgs false
set_option synthInstance.maxSize 4096

section
namespace Go.Vsi
def Ev (P : Nat -> Prop) : Prop := ∃ N, ∀ n, N <= n -> P n
theorem Ev.succ {P : Nat -> Prop} : Ev (fun n => P (n + 1)) -> Ev P
 | ⟨N, h⟩ => ⟨N + 1, fun n hn => by obtain ⟨m, rfl⟩ : ∃ m, n = m + 1 := ⟨n - 1, by omega⟩; exact h m (by omega)⟩
theorem Ev.shift {P : Nat -> Prop} : Ev P -> Ev (fun n => P (n + 1))
 | ⟨N, h⟩ => ⟨N, fun n hn => h (n + 1) (by omega)⟩
theorem Ev.and {P Q : Nat -> Prop} : Ev P -> Ev Q -> Ev (fun n => P n /\ Q n)
 | ⟨N, h⟩, ⟨M, g⟩ => ⟨max N M, fun n hn => ⟨h n (by omega), g n (by omega)⟩⟩
theorem Ev.const {p : Prop} (h : p) : Ev (fun _ => p) := ⟨0, fun _ _ => h⟩
theorem Ev.imp {P Q : Nat -> Prop} (hpq : ∀ n, P n -> Q n) : Ev P -> Ev Q
 | ⟨N, h⟩ => ⟨N, fun n hn => hpq n (h n hn)⟩
theorem Ev.grd {b : Bool} {P : Nat -> Prop} (hb : b = true) (h : Ev P) : Ev (fun n => grd b (P n)) := by
 subst hb; exact h
theorem Ev.pos {c : Prop} [Decidable c] {P Q : Nat -> Prop} (h : c) (h1 : Ev P) : Ev (fun n => if c then P n else Q n) := by
 simp only [if_pos h]; exact h1
theorem Ev.neg {c : Prop} [Decidable c] {P Q : Nat -> Prop} (h : ¬ c) (h1 : Ev Q) : Ev (fun n => if c then P n else Q n) := by
 simp only [if_neg h]; exact h1
theorem Ev.some {P : Nat -> Prop} : Ev P -> ∃ n, P n
 | ⟨N, h⟩ => ⟨N, h N (Nat.le_refl _)⟩
theorem qG {x : Int} (h1 : -9223372036854775808 <= x) (h2 : x < 9223372036854775808) : IntKind.wrap .i64 x = x := by
 simp only [IntKind.wrap, IntKind.bits, IntKind.signed, Bool.true_and]
 split <;> simp_all <;> omega
theorem qDX {x : Int} (h1 : 0 <= x) (h2 : x < 18446744073709551616) : IntKind.wrap .u64 x = x := by
 simp only [IntKind.wrap, IntKind.bits, IntKind.signed, Bool.false_and]
 simp; omega
theorem qNq {x : Int} (h1 : 0 <= x) (h2 : x < 256) : IntKind.wrap .u8 x = x := by
 simp only [IntKind.wrap, IntKind.bits, IntKind.signed, Bool.false_and]
 simp; omega
theorem qIS {x m : Int} (h : 0 <= x) : Int.tdiv x m = x / m := Int.tdiv_eq_ediv_of_nonneg h
theorem qIQ {x m : Int} (h : 0 <= x) : Int.tmod x m = x % m := Int.tmod_eq_emod_of_nonneg h
theorem qNR {x m : Int} (h : 0 <= m) : Int.fdiv x m = x / m := Int.fdiv_eq_ediv_of_nonneg x h
def W (ws : List Nat) : List Int := ws.map Int.ofNat
theorem qIC (ws : List Nat) : (W ws).length = ws.length := by simp [W]
theorem qQn (ws : List Nat) (i : Nat) : rd (W ws) i = ((ws.getD i 0 : Nat) : Int) := by
 simp only [rd, W, List.getD_eq_getElem?_getD, List.getElem?_map]
 cases ws[i]? <;> rfl
def Below (m : Nat) (ws : List Nat) : Prop := ∀ x ∈ ws, x < m
theorem qQC {m : Nat} : ∀ {l : List Int}, (∀ x ∈ l, 0 <= x /\ x < (m : Int)) -> ∃ ws, l = W ws /\ Below m ws
 | [], _ => ⟨[], rfl, by simp [Below]⟩
 | x :: l, h => by
  obtain ⟨ws, rfl, hb⟩ := qQC (l := l) fun y hy => h y (by simp [hy])
  have hx := h x (by simp)
  refine ⟨x.toNat :: ws, ?_, ?_⟩
  ·simp only [W, List.map_cons, List.cons.injEq, and_true]
   show x = (x.toNat : Int); omega
  ·intro y hy
   simp only [List.mem_cons] at hy
   rcases hy with rfl | hy
   ·omega
   ·exact hb y hy
theorem Below.getD {m : Nat} {ws : List Nat} (h : Below m ws) (hm : 0 < m) (i : Nat) : ws.getD i 0 < m := by
 rw [List.getD_eq_getElem?_getD]
 cases hw : ws[i]? with
 | none => exact hm
 | some y => exact h y (List.mem_of_getElem? hw)
theorem Below.set {m : Nat} {ws : List Nat} (h : Below m ws) {i x : Nat} (hx : x < m) : Below m (ws.set i x) := by
 intro y hy
 rcases List.mem_or_eq_of_mem_set hy with h' | rfl
 ·exact h y h'
 ·exact hx
theorem Below.app {m : Nat} {a b : List Nat} (ha : Below m a) (hb : Below m b) : Below m (a ++ b) := by
 intro y hy
 rcases List.mem_append.mp hy with h | h
 ·exact ha y h
 ·exact hb y h
theorem qN1 {a b : Nat} (ha : a < 18446744073709551616) (hb : b < 18446744073709551616) : qGr .and .u64 (a : Int) (b : Int) = ((a &&& b : Nat) : Int) := by
 have hab : a &&& b < 2 ^ 64 := Nat.and_lt_two_pow a hb
 show IntKind.wrap .u64 (((BitVec.ofInt 64 (a : Int) &&& BitVec.ofInt 64 (b : Int) : BitVec 64).toNat : Nat) : Int) = _
 rw [BitVec.toNat_and, BitVec.ofInt_natCast, BitVec.ofInt_natCast, BitVec.toNat_ofNat, BitVec.toNat_ofNat]
 rw [Nat.mod_eq_of_lt ha, Nat.mod_eq_of_lt hb]
 exact qDX (by omega) (by omega)
theorem qNx (a k : Nat) (hk : k <= 64) : Int.fdiv (a : Int) (2 ^ (Nat.min k 64)) = ((a >>> k : Nat) : Int) := by
 rw [qNR (Int.le_of_lt (Int.pow_pos (by decide))), show Nat.min k 64 = k from Nat.min_eq_left hk, Nat.shiftRight_eq_div_pow]
 simp
def bit (ws : List Nat) (i : Nat) : Bool := (ws.getD (i / 64) 0).testBit (i % 64)
theorem qEB {ws : List Nat} {i : Nat} (h : 64 * ws.length <= i) : bit ws i = false := by
 have : ws.length <= i / 64 := by omega
 simp [bit, List.getD_eq_getElem?_getD, List.getElem?_eq_none this]
theorem qIK {a b : List Nat} (hl : a.length = b.length) (ha : Below 18446744073709551616 a) (hb : Below 18446744073709551616 b)
  (h : ∀ i, i < 64 * a.length -> bit a i = bit b i) : a = b := by
 apply List.ext_getElem hl
 intro k h1 h2
 apply Nat.eq_of_testBit_eq
 intro j
 by_cases hj : j < 64
 ·have := h (64 * k + j) (by omega)
  have e1 : (64 * k + j) / 64 = k := by omega
  have e2 : (64 * k + j) % 64 = j := by omega
  simpa [bit, e1, e2, List.getD_eq_getElem?_getD, h1, h2] using this
 ·have p : ∀ x, x < 18446744073709551616 -> x.testBit j = false := fun x hx =>
   Nat.testBit_lt_two_pow (Nat.lt_of_lt_of_le hx (Nat.pow_le_pow_right (n := 2) (by decide) (Nat.not_lt.mp hj)))
  rw [p _ (ha _ (List.getElem_mem h1)), p _ (hb _ (List.getElem_mem h2))]
theorem Ev.suc {P : Nat -> Prop} : Ev P ↔ Ev (fun n => P (n + 1)) := ⟨Ev.shift, Ev.succ⟩
theorem Ev.s0 (R : Nat -> Prop) : Ev (fun n => R (n + 1)) ↔ Ev (fun n => R n) := ⟨Ev.succ, Ev.shift⟩
theorem Ev.s1 {α : Type} (R : Nat -> α -> Prop) (a : α) : Ev (fun n => R (n + 1) a) ↔ Ev (fun n => R n a) := Ev.s0 (fun n => R n a)
theorem Ev.s2 {α β : Type} (R : Nat -> α -> β -> Prop) (a : α) (b : β) : Ev (fun n => R (n + 1) a b) ↔ Ev (fun n => R n a b) := Ev.s0 (fun n => R n a b)
theorem Ev.s3 {α β γ : Type} (R : Nat -> α -> β -> γ -> Prop) (a : α) (b : β) (c : γ) : Ev (fun n => R (n + 1) a b c) ↔ Ev (fun n => R n a b c) := Ev.s0 (fun n => R n a b c)
theorem Ev.s4 {α β γ δ : Type} (R : Nat -> α -> β -> γ -> δ -> Prop) (a : α) (b : β) (c : γ) (d : δ) : Ev (fun n => R (n + 1) a b c d) ↔ Ev (fun n => R n a b c d) := Ev.s0 (fun n => R n a b c d)
theorem Ev.s5 {α β γ δ ε : Type} (R : Nat -> α -> β -> γ -> δ -> ε -> Prop) (a : α) (b : β) (c : γ) (d : δ) (e : ε) : Ev (fun n => R (n + 1) a b c d e) ↔ Ev (fun n => R n a b c d e) := Ev.s0 (fun n => R n a b c d e)
theorem Ev.s6 {α β γ δ ε ζ : Type} (R : Nat -> α -> β -> γ -> δ -> ε -> ζ -> Prop) (a : α) (b : β) (c : γ) (d : δ) (e : ε) (f : ζ) : Ev (fun n => R (n + 1) a b c d e f) ↔ Ev (fun n => R n a b c d e f) := Ev.s0 (fun n => R n a b c d e f)
theorem Ev.s7 {α β γ δ ε ζ η : Type} (R : Nat -> α -> β -> γ -> δ -> ε -> ζ -> η -> Prop) (a : α) (b : β) (c : γ) (d : δ) (e : ε) (f : ζ) (g : η) : Ev (fun n => R (n + 1) a b c d e f g) ↔ Ev (fun n => R n a b c d e f g) := Ev.s0 (fun n => R n a b c d e f g)
theorem Ev.s8 {α β γ δ ε ζ η θ : Type} (R : Nat -> α -> β -> γ -> δ -> ε -> ζ -> η -> θ -> Prop) (a : α) (b : β) (c : γ) (d : δ) (e : ε) (f : ζ) (g : η) (h : θ) : Ev (fun n => R (n + 1) a b c d e f g h) ↔ Ev (fun n => R n a b c d e f g h) := Ev.s0 (fun n => R n a b c d e f g h)
theorem Ev.s9 {α β γ δ ε ζ η θ ι : Type} (R : Nat -> α -> β -> γ -> δ -> ε -> ζ -> η -> θ -> ι -> Prop) (a : α) (b : β) (c : γ) (d : δ) (e : ε) (f : ζ) (g : η) (h : θ) (i : ι) : Ev (fun n => R (n + 1) a b c d e f g h i) ↔ Ev (fun n => R n a b c d e f g h i) := Ev.s0 (fun n => R n a b c d e f g h i)
theorem Ev.s10 {α β γ δ ε ζ η θ ι κ : Type} (R : Nat -> α -> β -> γ -> δ -> ε -> ζ -> η -> θ -> ι -> κ -> Prop) (a : α) (b : β) (c : γ) (d : δ) (e : ε) (f : ζ) (g : η) (h : θ) (i : ι) (j : κ) : Ev (fun n => R (n + 1) a b c d e f g h i j) ↔ Ev (fun n => R n a b c d e f g h i j) := Ev.s0 (fun n => R n a b c d e f g h i j)
@[simp] theorem Ev.k {p : Prop} : Ev (fun _ => p) ↔ p := ⟨fun ⟨_, h⟩ => h _ (Nat.le_refl _), Ev.const⟩
@[simp] theorem Ev.iteI {c : Prop} [Decidable c] {P Q : Nat -> Prop} : Ev (fun n => if c then P n else Q n) ↔ if c then Ev P else Ev Q := by
 by_cases h : c <;> simp only [h, if_true, if_false]
@[simp] theorem Ev.andI {P Q : Nat -> Prop} : Ev (fun n => P n /\ Q n) ↔ Ev P /\ Ev Q :=
 ⟨fun ⟨N, h⟩ => ⟨⟨N, fun n hn => (h n hn).1⟩, ⟨N, fun n hn => (h n hn).2⟩⟩, fun h => Ev.and h.1 h.2⟩
theorem jT {p : Prop} [Decidable p] {P : Prop} (h : p) : grd (decide p) P ↔ P := by rw [decide_eq_true h]; exact Iff.rfl
theorem qB {p q : Prop} [Decidable p] [Decidable q] {P : Prop} (h : p /\ q) : grd (decide p && decide q) P ↔ P := by rw [decide_eq_true h.1, decide_eq_true h.2]; exact Iff.rfl
theorem qHH {p q r : Prop} [Decidable p] [Decidable q] [Decidable r] {P : Prop} (h : p /\ q /\ r) : grd (decide p && decide q && decide r) P ↔ P := by rw [decide_eq_true h.1, decide_eq_true h.2.1, decide_eq_true h.2.2]; exact Iff.rfl
@[simp] theorem qP0 {P : Prop} : grd true P ↔ P := Iff.rfl
theorem qO {α : Type} {l : List α} {x : Int} (h : l.drop x.toNat = []) (h0 : 0 <= x) : (l.length : Int) <= x := by
 have := List.drop_eq_nil_iff.1 h; omega
theorem qD {α : Type} [Inhabited α] {l ys : List α} {x : Int} {y : α} (h : l.drop x.toNat = y :: ys) (h0 : 0 <= x) :
  x < (l.length : Int) /\ rd l x.toNat = y /\ l.drop (x + 1).toNat = ys := by
 have hl : x.toNat < l.length := by
  rcases Nat.lt_or_ge x.toNat l.length with h' | h'
  ·exact h'
  ·rw [List.drop_eq_nil_of_le h'] at h; cases h
 refine ⟨by omega, ?_, ?_⟩
 ·have := List.getElem?_drop (xs := l) (i := x.toNat) (j := 0)
  rw [h] at this
  simp only [List.getElem?_cons_zero, Nat.add_zero] at this
  simp [rd, List.getD_eq_getElem?_getD, <- this]
 ·rw [show (x + 1).toNat = x.toNat + 1 from by omega, <- List.drop_drop, h]; rfl
theorem qCm {α : Type} {l ys : List α} {x : Int} {v : α} (h : l.drop (x + 1).toNat = ys) (h0 : 0 <= x) : (l.set x.toNat v).drop (x + 1).toNat = ys := by
 rw [List.drop_set_of_lt (by omega), h]
theorem wH {α : Type} {l : List α} {x : Int} {v : α} (h0 : 0 <= x) (hx : x < (l.length : Int)) : (l.set x.toNat v).take (x + 1).toNat = l.take x.toNat ++ [v] := by
 have e : (x + 1).toNat = x.toNat + 1 := by omega
 have hl : x.toNat < l.length := by omega
 rw [e, List.take_succ_eq_append_getElem (by simpa using hl), List.take_set_of_le (by omega)]
 simp
theorem qA1 {α : Type} [Inhabited α] {l : List α} {i : Nat} {v : α} (h : i < l.length) : rd (l.set i v) i = v := by
 simp [rd, List.getD_eq_getElem?_getD, h]
theorem zB {α : Type} {R : Nat -> α -> Prop} {a b : α} (h : a = b) : Ev (fun n => R n a) ↔ Ev (fun n => R n b) := by rw [h]
theorem qJZ {R : Nat -> Bool -> Prop} {b : Bool} : (if b = true then Ev (fun n => R n true) else Ev (fun n => R n false)) ↔ Ev (fun n => R n b) := by cases b <;> simp
theorem qEo {α β : Type} {R : Nat -> α -> β -> Prop} {a b : α} {c : β} (h : a = b) : Ev (fun n => R n a c) ↔ Ev (fun n => R n b c) := by rw [h]
theorem qEn {α β : Type} {R : Nat -> α -> β -> Prop} {a b : α} {c d : β} (h : a = b) (h' : c = d) : Ev (fun n => R n a c) ↔ Ev (fun n => R n b d) := by rw [h, h']
def Gd : (t : Ty) -> t.T -> Prop
 | .int k, n => k.min <= n /\ n <= k.max
 | .str, s => s.length <= 9223372036854775807
 | .sl _ t, l => l.length <= 9223372036854775807 /\ ∀ y, y ∈ l -> Gd t y
 | .prod a b, p => Gd a p.1 /\ Gd b p.2
 | .bool, _ => True
 | .unit, _ => True
 | .ptr _ _, _ => True
def qR {α : Type} (p : α -> Bool) : List α -> Int -> Int
 | [], _ => -1
 | y :: r, x => if p y = true then x else qR p r (x + 1)
theorem xE {α : Type} {p : α -> Bool} : ∀ {l : List α} {x : Int}, 0 <= x -> qR p l x < 0 -> qR p l x = -1
 | [], x, _, _ => rfl
 | y :: l, x, h0, h => by
  rw [qR] at h ⊢
  split
  ·rename_i hp; rw [if_pos hp] at h; omega
  ·rename_i hp; rw [if_neg hp] at h; exact xE (by omega) h
theorem xF {α : Type} {p : α -> Bool} : ∀ {l : List α} {x : Int}, 0 <= x -> decide (qR p l x >= 0) = l.any p
 | [], x, _ => by simp [qR]
 | y :: l, x, h0 => by
  rw [qR, List.any_cons]
  by_cases hp : p y = true
  ·simp [hp, h0]
  ·rw [if_neg hp, xF (by omega)]
   simp only [Bool.not_eq_true] at hp
   simp [hp]
def szr (left : Int) (z : Nat) : Int := if left < z then -1 else left - z
theorem qIX {left : Int} {z : Nat} : szr left z < 0 ↔ left < z := by unfold szr; split <;> omega
theorem qIV {left : Int} {z : Nat} (h : (z : Int) <= left) : szr left z = left - z := by unfold szr; rw [if_neg (by omega)]
theorem qIW {left : Int} {z : Nat} (h : ¬ (z : Int) <= left) : szr left z = -1 := by unfold szr; rw [if_pos (by omega)]
theorem qIU {left : Int} {y z : Nat} (h : 0 <= left) (hy : ¬ szr left y < 0) : szr (szr left y) z = szr left (y + z) := by
 rw [qIX] at hy
 unfold szr; split <;> split <;> split <;> omega
theorem qG3 {left : Int} {y z : Nat} (h : szr left y < 0) : szr left (y + z) = -1 := by
 rw [qIX] at h; unfold szr; split <;> omega
theorem qG2 {left : Int} {z : Nat} (h : -1 <= left) : -1 <= szr left z := by unfold szr; split <;> omega
theorem qBs {left b : Int} {z : Nat} (h : -1 <= left) (h' : left <= b) : szr left z <= b := by unfold szr; split <;> omega
structure Ok (w : Int) (ws : List Nat) : Prop where
 lo : 1 <= w
 hi : w <= 4096
 len : (ws.length : Int) = (w + 63) / 64
 words : Below 18446744073709551616 ws
 top : ∀ i : Nat, w <= i -> bit ws i = false
def qMn (f : Nat -> Bool) : Nat -> Nat
 | 0 => 0
 | n + 1 => qMn f n ||| ((f n).toNat <<< n)
theorem qD1 (b : Bool) (k : Nat) : b.toNat.testBit k = (decide (k = 0) && b) := by
 cases b
 ·simp
 ·cases k <;> simp [Nat.testBit_succ]
theorem qDY (f : Nat -> Bool) : ∀ (n j : Nat), (qMn f n).testBit j = (decide (j < n) && f j)
 | 0, j => by simp [qMn]
 | n + 1, j => by
  rw [qMn, Nat.testBit_or, qDY f n, Nat.testBit_shiftLeft, qD1]
  by_cases h : j < n
  ·have h1 : j < n + 1 := by omega
   have h2 : ¬ n <= j := by omega
   simp [h, h1, h2]
  ·by_cases h3 : j = n
   ·subst h3; simp
   ·have h1 : ¬ j < n + 1 := by omega
    have h2 : ¬ j - n = 0 := by omega
    simp [h, h1, h2]
theorem qMm (f : Nat -> Bool) (n : Nat) : qMn f n < 2 ^ n := by
 apply Nat.lt_pow_two_of_testBit
 intro j hj
 rw [qDY]
 have : ¬ j < n := by omega
 simp [this]
def pk (w : Nat) (f : Nat -> Bool) : List Nat := (List.range ((w + 63) / 64)).map fun k => qMn (fun j => decide (64 * k + j < w) && f (64 * k + j)) 64
theorem qLD (w : Nat) (f : Nat -> Bool) : (pk w f).length = (w + 63) / 64 := by simp [pk]
theorem qMA (w : Nat) (f : Nat -> Bool) {k : Nat} (h : k < (w + 63) / 64) : (pk w f).getD k 0 = qMn (fun j => decide (64 * k + j < w) && f (64 * k + j)) 64 := by
 rw [List.getD_eq_getElem?_getD, pk, List.getElem?_map, List.getElem?_range h]; rfl
theorem qNA (w : Nat) (f : Nat -> Bool) (i : Nat) : bit (pk w f) i = (decide (i < w) && f i) := by
 by_cases h : i / 64 < (w + 63) / 64
 ·rw [bit, qMA w f h, qDY, show 64 * (i / 64) + i % 64 = i from by omega]
  have : i % 64 < 64 := by omega
  simp [this]
 ·rw [qEB (by rw [qLD]; omega)]
  have : ¬ i < w := by omega
  simp [this]
theorem qK0 (w : Nat) (f : Nat -> Bool) : Below 18446744073709551616 (pk w f) := by
 intro x hx
 rw [pk, List.mem_map] at hx
 obtain ⟨k, _, rfl⟩ := hx
 exact qMm _ 64
theorem qP8 {w : Nat} {ws : List Nat} {f : Nat -> Bool} (h : Ok w ws) (hf : ∀ i, i < w -> bit ws i = f i) : ws = pk w f := by
 refine qIK (by rw [qLD]; have := h.len; omega) h.words (qK0 w f) fun i _ => ?_
 rw [qNA]
 by_cases hi : i < w
 ·rw [hf i hi]; simp [hi]
 ·rw [h.top i (by omega)]; simp [hi]
theorem Ev.impI {p : Prop} {P : Nat -> Prop} : Ev (fun n => p -> P n) ↔ (p -> Ev P) := by
 by_cases h : p
 ·simp only [h, true_imp_iff]
 ·simp only [h, false_imp_iff, iff_true]; exact ⟨0, fun _ _ => trivial⟩
def Wd (l : List Int) : Prop := ∀ x ∈ l, 0 <= x /\ x <= 18446744073709551615
def zM (w : Int) (l : List Int) : Bool := decide (1 <= w /\ w <= 4096 /\ (l.length : Int) = (w + 63) / 64 /\ (w % 64 = 0 \/ rd l (l.length - 1) / 2 ^ (w % 64).toNat = 0))
theorem qM2 {x j : Nat} : x / 2 ^ j % 2 = (x.testBit j).toNat := by
 rw [Nat.testBit, Nat.shiftRight_eq_div_pow, Nat.one_and_eq_mod_two]
 rcases Nat.mod_two_eq_zero_or_one (x / 2 ^ j) with h | h <;> simp [h]
theorem xY {a b c : Int} (R : Nat -> Bool -> Prop) : Ev (fun n => Z72.c n a b c (R n)) ↔ Ev (fun n => R n (decide (b <= a /\ a <= c))) := by
 refine Ev.suc.trans ?_
 simp only [Z72.c, Z72.w, Ev.iteI, decide_eq_true_eq, Ev.s1 R, ge_iff_le]
 split
 ·refine zB ?_; rw [decide_eq_decide]; omega
 ·refine zB ?_; symm; rw [decide_eq_false_iff_not]; omega
theorem wR {a b c : Int} (R : Nat -> Bool -> Prop) : Ev (fun n => Z15.c n a b c (R n)) ↔ Ev (fun n => R n (decide (b <= a /\ a <= c))) := by
 refine Ev.suc.trans ?_
 simp only [Z15.c, Z15.w, Ev.iteI, decide_eq_true_eq, Ev.s1 R, ge_iff_le]
 split
 ·refine zB ?_; rw [decide_eq_decide]; omega
 ·refine zB ?_; symm; rw [decide_eq_false_iff_not]; omega
theorem qF6 {a : Int} (h0 : 0 <= a) (h1 : a <= 1000000000) (R : Nat -> Int -> Prop) : Ev (fun n => Z22.c n a (R n)) ↔ Ev (fun n => R n ((a + 63) / 64)) := by
 refine Ev.suc.trans ?_
 simp (disch := omega) only [Z22.c, Z22.w, qG, qIS, Ev.s1 R]
theorem qK9 {ws : List Nat} (hw : Below 18446744073709551616 ws) {k : Nat} (hk : k < 64 * ws.length) (hl : ws.length <= 4096) {w : Int} (R : Nat -> Int -> Prop) :
  Ev (fun n => Z70.c n w (W ws) k (R n)) ↔ Ev (fun n => R n ((bit ws k).toNat : Int)) := by
 refine Ev.suc.trans ?_
 have e : qGr .and .u64 ((ws.getD (k / 64) 0 >>> (k % 64) : Nat) : Int) 1 = (((bit ws k).toNat : Nat) : Int) := by
  have hx : ws.getD (k / 64) 0 >>> (k % 64) < 18446744073709551616 := by
   rw [Nat.shiftRight_eq_div_pow]; exact Nat.lt_of_le_of_lt (Nat.div_le_self _ _) (hw.getD (by decide) _)
  rw [show (1 : Int) = ((1 : Nat) : Int) from rfl, qN1 hx (by decide), Nat.and_one_is_mod, Nat.shiftRight_eq_div_pow, qM2]; rfl
 have e1 : Int.toNat ((k : Int) / 64) = k / 64 := by omega
 have e2 : Int.toNat ((k : Int) % 64) = k % 64 := by omega
 simp (disch := omega) only [Z70.c, Z70.w, qIC, qIS, qIQ, qG, qDX, qB, jT, e1, e2, qQn, qNx, e]
 rw [qNq (by omega) (by cases bit ws k <;> simp), Ev.s1 R]
theorem qE1 {ws : List Nat} (hw : Below 18446744073709551616 ws) (hl : ws.length <= 4096) {w : Int} : ∀ (m k : Nat), k + m = 64 * ws.length -> ∃ b : Bool, (b = true ↔ ∀ i, k <= i -> bit ws i = false) /\
  ∀ (Kx : Nat -> Prop) (Kr : Nat -> Bool -> Prop), (Ev (fun n => Z66.l4 n w (W ws) k (Kx n) (Kr n)) ↔ if b = true then Ev Kx else Ev (fun n => Kr n false))
 | 0, k, h => by
  refine ⟨true, ⟨fun _ i hi => qEB (by omega), fun _ => rfl⟩, fun Kx Kr => ?_⟩
  refine Ev.suc.trans ?_
  simp (disch := omega) only [Z66.l4, Z66.l4.b, qIC, qG, if_neg, decide_eq_true_eq, Ev.s0 Kx, if_true]
 | m + 1, k, h => by
  obtain ⟨b, hb, kk⟩ := qE1 hw hl (w := w) m (k + 1) (by omega)
  refine ⟨b && !bit ws k, ?_, fun Kx Kr => ?_⟩
  ·simp only [Bool.and_eq_true, Bool.not_eq_true', hb]
   constructor
   ·rintro ⟨h1, h2⟩ i hi
    rcases Nat.lt_or_eq_of_le hi with h' | rfl
    ·exact h1 i h'
    ·exact h2
   ·exact fun h => ⟨fun i hi => h i (by omega), h k (Nat.le_refl _)⟩
  ·refine Ev.suc.trans ?_
   have e : ((k : Int) + 1) = ((k + 1 : Nat) : Int) := by omega
   simp (disch := omega) only [Z66.l4, Z66.l4.b, qIC, qG, if_pos, decide_eq_true_eq, qK9 hw _ hl, Ev.iteI, Bool.not_eq_true', decide_eq_false_iff_not, e, kk, Ev.s0 Kx, Ev.s1 Kr]
   cases bit ws k <;> simp
theorem qG0 {w : Int} {ws : List Nat} (hw : Below 18446744073709551616 ws) (h1 : 1 <= w) (h2 : (ws.length : Int) = (w + 63) / 64) (hr : w % 64 ≠ 0) :
  ws.getD (ws.length - 1) 0 >>> (w % 64).toNat = 0 ↔ ∀ i : Nat, w <= i -> bit ws i = false := by
 constructor
 ·intro h i hi
  by_cases ho : 64 * ws.length <= i
  ·exact qEB ho
  ·have e1 : i / 64 = ws.length - 1 := by omega
   have := congrArg (fun y => Nat.testBit y (i % 64 - (w % 64).toNat)) h
   simp only [Nat.testBit_shiftRight, Nat.zero_testBit] at this
   rw [show (w % 64).toNat + (i % 64 - (w % 64).toNat) = i % 64 from by omega] at this
   rw [bit, e1]; exact this
 ·intro h
  apply Nat.eq_of_testBit_eq
  intro j
  rw [Nat.testBit_shiftRight, Nat.zero_testBit]
  by_cases hj : (w % 64).toNat + j < 64
  ·have := h (64 * (ws.length - 1) + ((w % 64).toNat + j)) (by omega)
   rw [bit, show (64 * (ws.length - 1) + ((w % 64).toNat + j)) / 64 = ws.length - 1 from by omega, show (64 * (ws.length - 1) + ((w % 64).toNat + j)) % 64 = (w % 64).toNat + j from by omega] at this
   exact this
  ·exact Nat.testBit_lt_two_pow (Nat.lt_of_lt_of_le (hw.getD (by decide) _) (Nat.pow_le_pow_right (n := 2) (by decide) (Nat.not_lt.mp hj)))
theorem qHQ {w : Int} {ws : List Nat} (hw : Below 18446744073709551616 ws) : zM w (W ws) = true ↔ 1 <= w /\ w <= 4096 /\ (ws.length : Int) = (w + 63) / 64 /\ ∀ i : Nat, w <= i -> bit ws i = false := by
 rw [zM, decide_eq_true_eq, qIC, qQn]
 refine ⟨fun ⟨h1, h2, h3, h4⟩ => ⟨h1, h2, h3, ?_⟩, fun ⟨h1, h2, h3, h4⟩ => ⟨h1, h2, h3, ?_⟩⟩
 ·by_cases h5 : w % 64 = 0
  ·exact fun i hi => qEB (by omega)
  ·rcases h4 with h4 | h4
   ·exact absurd h4 h5
   ·rw [<- qG0 hw h1 h3 h5, Nat.shiftRight_eq_div_pow]
    exact_mod_cast h4
 ·by_cases h5 : w % 64 = 0
  ·exact Or.inl h5
  ·have := (qG0 hw h1 h3 h5).2 h4
   rw [Nat.shiftRight_eq_div_pow] at this
   exact Or.inr (by exact_mod_cast this)
theorem Wd.of {l : List Int} (h : Wd l) : ∃ ws, l = W ws /\ Below 18446744073709551616 ws := qQC fun x hx => ⟨(h x hx).1, by have := (h x hx).2; omega⟩
theorem qI3 {w : Int} {l : List Int} (hw : Wd l) (R : Nat -> Bool -> Prop) : Ev (fun n => Z66.c n w l (R n)) ↔ Ev (fun n => R n (zM w l)) := by
 obtain ⟨ws, rfl, hB⟩ := hw.of
 have hiff := qHQ (w := w) hB
 refine Ev.suc.trans ?_
 simp (disch := omega) only [Z66.c, Z66.w, xY, Ev.iteI, Bool.not_eq_false', Bool.not_eq_true', decide_eq_true_eq, decide_eq_false_iff_not, qIC]
 by_cases h1 : 1 <= w /\ w <= 4096
 ·rw [if_pos h1, qG (x := w + 63) (by omega) (by omega), qIS (by omega), qG (by omega) (by omega)]
  by_cases h2 : (ws.length : Int) = (w + 63) / 64
  ·obtain ⟨b, hb, kk⟩ := qE1 hB (by omega) (w := w) (64 * ws.length - w.toNat) w.toNat (by omega)
   have e : ((w.toNat : Nat) : Int) = w := by omega
   rw [e] at kk
   rw [if_neg (by omega), kk, Ev.s1 R, Ev.s1 R]
   have : b = zM w (W ws) := by
    rw [Bool.eq_iff_iff, hb, hiff]
    exact ⟨fun h => ⟨h1.1, h1.2, h2, fun i hi => h i (by omega)⟩, fun h i hi => h.2.2.2 i (by omega)⟩
   rw [<- this]
   cases b <;> rfl
  ·rw [if_pos h2, Ev.s1 R]
   have : zM w (W ws) = false := by
    rw [Bool.eq_false_iff]; intro h; exact h2 (hiff.1 h).2.2.1
   rw [this]
 ·rw [if_neg h1, Ev.s1 R]
  have : zM w (W ws) = false := by
   rw [Bool.eq_false_iff]; intro h; exact h1 ⟨(hiff.1 h).1, (hiff.1 h).2.1⟩
  rw [this]
theorem qFv {w : Int} {l : List Int} (R : Nat -> Bool -> Prop) : Ev (fun n => Z0.c n w l (R n)) ↔ Ev (fun n => R n (zM w l)) := by
 refine Ev.suc.trans ?_
 simp only [Z0.c, Z0.w, wR, Ev.iteI, Ev.andI, Bool.not_eq_false', Bool.not_eq_true', decide_eq_true_eq, decide_eq_false_iff_not, Ev.s1 R, and_self]
 by_cases h1 : 1 <= w /\ w <= 4096
 ·rw [if_pos h1]
  simp (disch := omega) only [qF6, Ev.iteI, Bool.not_eq_true', decide_eq_false_iff_not, Ev.s1 R]
  by_cases h2 : (l.length : Int) = (w + 63) / 64
  ·rw [if_neg (by omega)]
   simp (disch := omega) only [Z0.j0, qIQ, Ev.iteI, decide_eq_false_iff_not, qG, qB, jT, Ev.s1 R]
   by_cases h3 : w % 64 = 0
   ·rw [if_neg (by omega), show zM w l = true from by simp [zM, h1, h2, h3]]
   ·rw [if_pos h3]
    refine zB ?_
    have e1 : ((l.length : Int) - 1).toNat = l.length - 1 := by omega
    have e2 : Nat.min (w % 64).toNat 64 = (w % 64).toNat := Nat.min_eq_left (by omega)
    rw [e1, e2, qNR (Int.le_of_lt (Int.pow_pos (by decide)))]
    simp [zM, h1, h2, h3]
  ·rw [if_pos h2, show zM w l = false from by simp [zM, h2]]
 ·rw [if_neg h1, show zM w l = false from by
   rw [Bool.eq_false_iff]; intro h; rw [zM, decide_eq_true_eq] at h; exact h1 ⟨h.1, h.2.1⟩]
theorem qFy {l ys : List UInt8} {x : Int} {y : UInt8} (h : l.drop x.toNat = y :: ys) (h0 : 0 <= x) : x < (l.length : Int) /\ List.getD l x.toNat 0 = y /\ l.drop (x + 1).toNat = ys :=
 qD h h0
def qLT (c : UInt8) : Bool := decide ((97 <= (c.toNat : Int) /\ (c.toNat : Int) <= 122) \/ (48 <= (c.toNat : Int) /\ (c.toNat : Int) <= 57))
def qCR (s : List UInt8) : Bool := decide (1 <= s.length /\ s.length <= 12 /\ 97 <= ((List.getD s 0 0).toNat : Int) /\ ((List.getD s 0 0).toNat : Int) <= 122) && s.all qLT
theorem qFh {s : List UInt8} (hl : s.length <= 1099511627776) : ∀ (ys : List UInt8) (x : Int), s.drop x.toNat = ys -> 0 <= x -> ∀ (Kx : Nat -> Prop) (Kr : Nat -> Bool -> Prop),
  (Ev (fun n => Z16.l4 n s x (Kx n) (Kr n)) ↔ if ys.all qLT = true then Ev Kx else Ev (fun n => Kr n false))
 | [], x, h, h0, Kx, Kr => by
  have := qO h h0
  refine Ev.suc.trans ?_
  simp (disch := omega) only [Z16.l4, Z16.l4.b, if_neg, decide_eq_true_eq, Ev.s0 Kx, List.all_nil, if_true]
 | y :: ys, x, h, h0, Kx, Kr => by
  obtain ⟨e1, e2, e3⟩ := qFy h h0
  refine Ev.suc.trans ?_
  simp (disch := omega) only [Z16.l4, Z16.l4.b, if_pos, decide_eq_true_eq, decide_eq_false_iff_not, qB, e2, qG, Ev.iteI, qFh hl ys (x + 1) e3, Ev.s0 Kx, Ev.s1 Kr, List.all_cons, Bool.and_eq_true]
  simp only [qLT, decide_eq_true_eq]
  (repeat' split) <;> first | rfl | (exfalso; omega) | (exfalso; simp_all; omega) | (simp_all; done)
theorem qJr {s : List UInt8} (R : Nat -> Bool -> Prop) : Ev (fun n => Z16.c n s (R n)) ↔ Ev (fun n => R n (qCR s)) := by
 refine Ev.suc.trans ?_
 simp only [Z16.c, Z16.w, Ev.iteI, decide_eq_true_eq, decide_eq_false_iff_not, qCR]
 by_cases h1 : 1 <= s.length /\ s.length <= 12
 ·rw [if_pos (by omega), if_pos (by omega)]
  simp (disch := omega) only [jT, Ev.iteI, qFh (by omega) s 0 rfl, Ev.s1 R, decide_eq_false_iff_not, decide_eq_true_eq]
  by_cases h2 : 97 <= ((List.getD s 0 0).toNat : Int) /\ ((List.getD s 0 0).toNat : Int) <= 122
  ·rw [if_pos (by omega), if_neg (by omega)]
   rw [show (decide (1 <= s.length /\ s.length <= 12 /\ 97 <= ((List.getD s 0 0).toNat : Int) /\ ((List.getD s 0 0).toNat : Int) <= 122)) = true from by rw [decide_eq_true_eq]; omega, Bool.true_and]
   exact qJZ
  ·rw [show (decide (1 <= s.length /\ s.length <= 12 /\ 97 <= ((List.getD s 0 0).toNat : Int) /\ ((List.getD s 0 0).toNat : Int) <= 122)) = false from by rw [decide_eq_false_iff_not]; omega, Bool.false_and]
   split <;> (try split) <;> first | rfl | (exfalso; omega)
 ·rw [show (decide (1 <= s.length /\ s.length <= 12 /\ 97 <= ((List.getD s 0 0).toNat : Int) /\ ((List.getD s 0 0).toNat : Int) <= 122)) = false from by rw [decide_eq_false_iff_not]; omega, Bool.false_and, Ev.s1 R]
  split <;> (try split) <;> first | rfl | (exfalso; omega)
theorem qDF {a : Int} (R : Nat -> Bool -> Prop) : Ev (fun n => Z71.c n a (R n)) ↔ Ev (fun n => R n (decide (48 <= a /\ a <= 57))) := by
 refine Ev.suc.trans ?_
 simp only [Z71.c, Z71.w, Ev.iteI, decide_eq_true_eq, Ev.s1 R, ge_iff_le]
 split
 ·refine zB ?_; rw [decide_eq_decide]; omega
 ·refine zB ?_; symm; rw [decide_eq_false_iff_not]; omega
theorem qFp {s : List UInt8} (hl : s.length <= 1099511627776) : ∀ (ys : List UInt8) (x : Int), s.drop x.toNat = ys -> 0 <= x -> ∀ (Kx : Nat -> Prop) (Kr : Nat -> Bool -> Prop),
  (Ev (fun n => Z73.l4 n s x (Kx n) (Kr n)) ↔ if ys.all qLT = true then Ev Kx else Ev (fun n => Kr n false))
 | [], x, h, h0, Kx, Kr => by
  have := qO h h0
  refine Ev.suc.trans ?_
  simp (disch := omega) only [Z73.l4, Z73.l4.b, if_neg, decide_eq_true_eq, Ev.s0 Kx, List.all_nil, if_true]
 | y :: ys, x, h, h0, Kx, Kr => by
  obtain ⟨e1, e2, e3⟩ := qFy h h0
  refine Ev.suc.trans ?_
  simp (disch := omega) only [Z73.l4, Z73.l4.b, if_pos, decide_eq_true_eq, decide_eq_false_iff_not, Bool.not_eq_true', qB, e2, qG, qDF, Ev.iteI, qFp hl ys (x + 1) e3, Ev.s0 Kx, Ev.s1 Kr, List.all_cons, Bool.and_eq_true]
  simp only [qLT, decide_eq_true_eq]
  (repeat' split) <;> first | rfl | (exfalso; omega) | (exfalso; simp_all; omega) | (simp_all; done)
theorem qJC {s : List UInt8} (R : Nat -> Bool -> Prop) : Ev (fun n => Z73.c n s (R n)) ↔ Ev (fun n => R n (qCR s)) := by
 refine Ev.suc.trans ?_
 simp only [Z73.c, Z73.w, Ev.iteI, decide_eq_true_eq, decide_eq_false_iff_not, qCR]
 by_cases h1 : 1 <= s.length /\ s.length <= 12
 ·rw [if_pos (by omega), if_pos (by omega)]
  simp (disch := omega) only [jT, qDF, Ev.iteI, qFp (by omega) s 0 rfl, Ev.s1 R, decide_eq_false_iff_not, decide_eq_true_eq]
  match s, h1 with
  | c :: r, h1 =>
   have e : (List.getD (c :: r) 0 0) = c := rfl
   rw [e]
   by_cases h2 : 48 <= (c.toNat : Int) /\ (c.toNat : Int) <= 57
   ·rw [if_pos h2, show (decide (1 <= (c :: r).length /\ (c :: r).length <= 12 /\ 97 <= (c.toNat : Int) /\ (c.toNat : Int) <= 122)) = false from by rw [decide_eq_false_iff_not]; omega, Bool.false_and]
   ·rw [if_neg h2]
    by_cases h3 : qLT c = true
    ·have : 97 <= (c.toNat : Int) /\ (c.toNat : Int) <= 122 := by
      rw [qLT, decide_eq_true_eq] at h3; omega
     rw [show (decide (1 <= (c :: r).length /\ (c :: r).length <= 12 /\ 97 <= (c.toNat : Int) /\ (c.toNat : Int) <= 122)) = true from by rw [decide_eq_true_eq]; omega, Bool.true_and]
     exact qJZ
    ·rw [List.all_cons, if_neg (by simp [h3]), show qLT c = false from by simpa using h3, Bool.false_and, Bool.and_false]
  | [], h1 => simp at h1
 ·rw [show (decide (1 <= s.length /\ s.length <= 12 /\ 97 <= ((List.getD s 0 0).toNat : Int) /\ ((List.getD s 0 0).toNat : Int) <= 122)) = false from by rw [decide_eq_false_iff_not]; omega, Bool.false_and, Ev.s1 R]
  split <;> (try split) <;> first | rfl | (exfalso; omega)
theorem qFI {a : List UInt8} {b : Int} {z : List UInt8} (R : Nat -> Bool -> Prop) : Ev (fun n => Z14.c n a b z (R n)) ↔ Ev (fun n => R n (decide (a = z))) := by
 refine Ev.suc.trans ?_
 simp only [Z14.c, Z14.w, Ev.s1 R]
 refine zB ?_
 rw [Bool.eq_iff_iff]; simp
theorem qLV {l : List qQ} {z : List UInt8} (hl : l.length <= 1099511627776) : ∀ (ys : List qQ) (x : Int), l.drop x.toNat = ys -> 0 <= x ->
  ∀ (Kx : Nat -> Prop) (Kr : Nat -> Int -> Prop),
  (Ev (fun n => Z62.l2 n l z l.length x (Kx n) (Kr n)) ↔ if qR (fun y => decide (y.1 = z)) ys x < 0 then Ev Kx else Ev (fun n => Kr n (qR (fun y => decide (y.1 = z)) ys x)))
 | [], x, h, h0, Kx, Kr => by
  have := qO h h0
  rw [qR, if_pos (by decide)]
  refine Ev.suc.trans ?_
  simp (disch := omega) only [Z62.l2, Z62.l2.b, if_neg, decide_eq_true_eq, Ev.s0 Kx]
 | y :: ys, x, h, h0, Kx, Kr => by
  obtain ⟨e1, e2, e3⟩ := qD h h0
  refine Ev.suc.trans ?_
  simp (disch := first | omega | omega) only [Z62.l2, Z62.l2.b, if_pos, decide_eq_true_eq, qB, e2, qG, Ev.s1 Kr, qFI, Ev.iteI]
  rw [qLV hl ys (x + 1) e3 (by omega), Ev.s0 Kx, Ev.s1 Kr]
  simp only [qR, decide_eq_true_eq]
  split
  ·rw [if_neg (by omega)]
  ·rfl
theorem qOr {l : List qQ} {z : List UInt8} (hl : l.length <= 1099511627776) (R : Nat -> Int -> Prop) :
  Ev (fun n => Z62.c n l z (R n)) ↔ Ev (fun n => R n (qR (fun y => decide (y.1 = z)) l 0)) := by
 refine Ev.suc.trans ?_
 simp only [Z62.c, Z62.w]
 rw [qLV hl l 0 rfl (by omega), Ev.s1 R, Ev.s1 R]
 split
 ·rw [xE (by omega) ‹_›]
 ·rfl
theorem qGy {l : List qQ} {z : List UInt8} (hl : l.length <= 1099511627776) (R : Nat -> Int -> Prop) : Ev (fun n => Z13.c n l z (R n)) ↔ Ev (fun n => R n (qR (fun y => decide (y.1 = z)) l 0)) := by
 refine Ev.suc.trans ?_
 simp only [Z13.c, Z13.w]
 rw [qOr hl, Ev.s1 R]
def yK : List qQ -> List qQ -> Int -> Bool
 | _, [], t => decide (t <= 20000)
 | pre, y :: r, t => qCR y.1 && decide (1 <= y.2 /\ y.2 <= 4096) && !(pre.any fun z => decide (z.1 = y.1)) && yK (pre ++ [y]) r (t + y.2)
def vV (l : List qQ) : Bool := decide (l.length <= 60) && yK [] l 0
theorem qEU {α : Type} {l ys : List α} {x : Int} {y : α} (h : l.drop x.toNat = y :: ys) (h0 : 0 <= x) : l.take (x + 1).toNat = l.take x.toNat ++ [y] := by
 have hl : x.toNat < l.length := by
  rcases Nat.lt_or_ge x.toNat l.length with h' | h'
  ·exact h'
  ·rw [List.drop_eq_nil_of_le h'] at h; cases h
 rw [show (x + 1).toNat = x.toNat + 1 from by omega, List.take_succ_eq_append_getElem hl]
 congr 2
 have := List.getElem?_drop (xs := l) (i := x.toNat) (j := 0)
 rw [h] at this
 simp only [List.getElem?_cons_zero, Nat.add_zero, List.getElem?_eq_getElem hl, Option.some.injEq] at this
 exact this.symm
theorem qDO {l : List qQ} (hl : l.length <= 60) : ∀ (ys : List qQ) (x t : Int), l.drop x.toNat = ys -> 0 <= x -> 0 <= t -> t <= 4096 * x -> ∀ (R : Nat -> Bool -> Prop),
  (Ev (fun n => Z1.l5 n l l l.length t x (fun y => R n (decide (y <= 20000))) (R n)) ↔ Ev (fun n => R n (yK (l.take x.toNat) ys t)))
 | [], x, t, h, h0, ht, ht', R => by
  have := qO h h0
  refine Ev.suc.trans ?_
  simp (disch := omega) only [Z1.l5, Z1.l5.b, if_neg, decide_eq_true_eq, Ev.s1 R, yK]
 | y :: ys, x, t, h, h0, ht, ht', R => by
  obtain ⟨e1, e2, e3⟩ := qD h h0
  refine Ev.suc.trans ?_
  have hd : (List.drop 0 (List.take x.toNat l)).length <= 1099511627776 := by simp; omega
  simp (disch := omega) only [Z1.l5, Z1.l5.b, if_pos, decide_eq_true_eq, qB, e2, qJr, wR, Ev.iteI, Bool.not_eq_false', Ev.s1 R, yK]
  by_cases h1 : qCR y.1 = true
  ·by_cases h2 : 1 <= y.2 /\ y.2 <= 4096
   ·rw [if_pos h1, if_pos h2]
    simp (disch := omega) only [qHH, qGy hd, Ev.iteI, qG, ge_iff_le]
    rw [qDO hl ys (x + 1) (t + y.2) e3 (by omega) (by omega) (by omega), Ev.s1 R, Ev.s1 R, qEU h h0]
    have e := xF (p := fun z : qQ => decide (z.1 = y.1)) (l := List.take x.toNat l) (x := 0) (by omega)
    rw [List.drop_zero]
    by_cases h3 : 0 <= qR (fun z : qQ => decide (z.1 = y.1)) (List.take x.toNat l) 0
    ·rw [if_pos h3, <- e]; simp [h1, h2, h3]
    ·rw [if_neg h3, <- e]; simp [h1, h2, h3]
   ·rw [if_pos h1, if_neg h2]; simp [h1, h2]
  ·rw [if_neg h1]; simp [h1]
theorem qIu {l : List qQ} (R : Nat -> Bool -> Prop) : Ev (fun n => Z1.c n l (R n)) ↔ Ev (fun n => R n (vV l)) := by
 refine Ev.suc.trans ?_
 simp only [Z1.c, Z1.w, Ev.iteI, decide_eq_true_eq, vV]
 by_cases h : l.length <= 60
 ·rw [if_neg (by omega), qDO h l 0 0 rfl (by omega) (by omega) (by omega) (fun n => R (n + 1)), Ev.s1 R]
  simp [h]
 ·rw [if_pos (by omega), Ev.s1 R]; simp [h]
theorem qC3 {l : List qQ} {t i : Int} {y : qQ} (hl : l.length <= 60) (hi : rd l i.toNat = y) (hi0 : 0 <= i) (hi1 : i < (l.length : Int)) : ∀ (m : Nat) (k : Int), k + m = i -> 0 <= k -> ∀ (Kx : Nat -> List qQ -> Int -> Int -> Prop) (Kr : Nat -> Bool -> Prop),
  (Ev (fun n => Z67.l10 n l t i k (Kx n) (Kr n)) ↔ if (((l.take i.toNat).drop k.toNat).any fun z => decide (z.1 = y.1)) = true then Ev (fun n => Kr n false) else Ev (fun n => Kx n l t i))
 | 0, k, h, h0, Kx, Kr => by
  refine Ev.suc.trans ?_
  simp (disch := omega) only [Z67.l10, Z67.l10.b, if_neg, decide_eq_true_eq, Ev.s3 Kx]
  rw [List.drop_eq_nil_of_le (by simp; omega)]
  simp
 | m + 1, k, h, h0, Kx, Kr => by
  refine Ev.suc.trans ?_
  have e : (l.take i.toNat).drop k.toNat = rd l k.toNat :: (l.take i.toNat).drop (k + 1).toNat := by
   have hk : k.toNat < (l.take i.toNat).length := by simp; omega
   rw [List.drop_eq_getElem_cons hk, show (k + 1).toNat = k.toNat + 1 from by omega]
   congr 1
   rw [List.getElem_take, rd, List.getD_eq_getElem?_getD, List.getElem?_eq_getElem (by omega)]; rfl
  simp (disch := omega) only [Z67.l10, Z67.l10.b, if_pos, decide_eq_true_eq, qB, hi, qG, Ev.iteI, beq_iff_eq, Ev.s1 Kr, e, List.any_cons, Bool.or_eq_true]
  rw [qC3 hl hi hi0 hi1 m (k + 1) (by omega) (by omega), Ev.s1 Kr, Ev.s3 Kx]
  (repeat' split) <;> first | rfl | (exfalso; simp_all; done)
theorem qC2 {l : List qQ} (hl : l.length <= 60) : ∀ (ys : List qQ) (x t : Int), l.drop x.toNat = ys -> 0 <= x -> 0 <= t -> t <= 4096 * x -> ∀ (R : Nat -> Bool -> Prop),
  (Ev (fun n => Z67.l5 n l t x (fun y => R n (decide (y <= 20000))) (R n)) ↔ Ev (fun n => R n (yK (l.take x.toNat) ys t)))
 | [], x, t, h, h0, ht, ht', R => by
  have := qO h h0
  refine Ev.suc.trans ?_
  simp (disch := omega) only [Z67.l5, Z67.l5.b, if_neg, decide_eq_true_eq, Ev.s1 R, yK]
 | y :: ys, x, t, h, h0, ht, ht', R => by
  obtain ⟨e1, e2, e3⟩ := qD h h0
  refine Ev.suc.trans ?_
  simp (disch := omega) only [Z67.l5, Z67.l5.b, if_pos, decide_eq_true_eq, qB, e2, qJC, xY, Ev.iteI, Bool.not_eq_false', Bool.not_eq_true', decide_eq_false_iff_not, Ev.s1 R, yK, Z67.j3]
  by_cases h1 : qCR y.1 = true
  ·by_cases h2 : 1 <= y.2 /\ y.2 <= 4096
   ·rw [if_pos h1, if_neg (by omega), qC3 hl e2 h0 e1 x.toNat 0 (by omega) (by omega), Ev.s1 R]
    simp (disch := omega) only [qB, e2, qG]
    rw [qC2 hl ys (x + 1) (t + y.2) e3 (by omega) (by omega) (by omega) (fun n => R (n + 1)), Ev.s1 R, qEU h h0, show (0 : Int).toNat = 0 from rfl, List.drop_zero]
    split
    ·rename_i h3; simp [h1, h2, h3]
    ·rename_i h3; simp only [Bool.not_eq_true] at h3; simp [h1, h2, h3]
   ·rw [if_pos h1, if_pos h2]; simp [h1, h2]
  ·rw [if_neg h1]; simp [h1]
theorem qGx {l : List qQ} (R : Nat -> Bool -> Prop) : Ev (fun n => Z67.c n l (R n)) ↔ Ev (fun n => R n (vV l)) := by
 refine Ev.suc.trans ?_
 simp only [Z67.c, Z67.w, Ev.iteI, decide_eq_true_eq, vV]
 by_cases h : l.length <= 60
 ·rw [if_neg (by omega), qC2 h l 0 0 rfl (by omega) (by omega) (by omega) (fun n => R (n + 1)), Ev.s1 R]
  simp [h]
 ·rw [if_pos (by omega), Ev.s1 R]; simp [h]
def yO (d : List qQ) (x : qA) (kw : List Int) : Int :=
 if x.1 = 1 /\ kw.length = 0 /\ 0 <= x.2.1 /\ x.2.1 <= (d.length : Int) - 1 then (rd d x.2.1.toNat).2
 else if x.1 = 2 /\ kw.length = 0 /\ zM x.2.2.2.2.1 x.2.2.2.2.2.1 = true then x.2.2.2.2.1
 else if x.1 = 3 /\ 1 < kw.length then kw.sum
 else if kw.length ≠ 1 then -1
 else if x.1 = 4 /\ 0 <= x.2.2.2.1 /\ x.2.2.2.1 <= x.2.2.1 /\ x.2.2.1 < rd kw 0 then x.2.2.1 - x.2.2.2.1 + 1
 else if (x.1 = 5 \/ x.1 = 6) /\ 0 <= x.2.2.1 /\ x.2.2.1 <= 4096 then rd kw 0 + x.2.2.1
 else if (x.1 = 7 \/ x.1 = 8) /\ 0 <= x.2.2.1 /\ x.2.2.1 <= 4096 then rd kw 0
 else if x.1 = 9 /\ 1 <= x.2.2.1 /\ x.2.2.1 <= 4096 then rd kw 0 * x.2.2.1
 else -1
theorem qQx {a b : Int} (h1 : 0 <= a) (h2 : a <= 8192) (h3 : 0 <= b) (h4 : b <= 4096) : 0 <= a * b /\ a * b <= 33554432 :=
 ⟨Int.mul_nonneg h1 h3, Int.le_trans (Int.mul_le_mul h2 h4 h3 (by decide)) (by decide)⟩
theorem qGW {kw : List Int} (hl : kw.length <= 4096) (hk : ∀ w ∈ kw, 0 <= w /\ w <= 4096) : ∀ (ys : List Int) (x s : Int), kw.drop x.toNat = ys -> 0 <= x -> 0 <= s -> s <= 4096 * x -> ∀ (Kx : Nat -> Int -> Prop),
  (Ev (fun n => Z5.l11 n kw kw.length s x (Kx n)) ↔ Ev (fun n => Kx n (s + ys.sum)))
 | [], x, s, h, h0, hs, hs', Kx => by
  have := qO h h0
  refine Ev.suc.trans ?_
  simp (disch := omega) only [Z5.l11, Z5.l11.b, if_neg, decide_eq_true_eq, Ev.s1 Kx, List.sum_nil, Int.add_zero]
 | y :: ys, x, s, h, h0, hs, hs', Kx => by
  obtain ⟨e1, e2, e3⟩ := qD h h0
  have hy : y ∈ kw := by
   have : y ∈ kw.drop x.toNat := by rw [h]; exact List.mem_cons_self
   exact List.mem_of_mem_drop this
  have hy' := hk y hy
  refine Ev.suc.trans ?_
  simp (disch := omega) only [Z5.l11, Z5.l11.b, if_pos, decide_eq_true_eq, qB, e2, qG]
  rw [qGW hl hk ys (x + 1) (s + y) e3 (by omega) (by omega) (by omega), Ev.s1 Kx]
  refine zB ?_
  rw [List.sum_cons]; omega
theorem qIM {x : qA} {f : Int} {b : Bool} (K : Nat -> Int -> Prop) (S : Nat -> Prop) :
  Ev (fun n => Z5.q21 n x f b (K n) (S n)) ↔ if b = true then Ev (fun n => K n (IntKind.wrap .i64 (f + x.2.2.1))) else
   if (x.1 = 7 \/ x.1 = 8) /\ 0 <= x.2.2.1 /\ x.2.2.1 <= 4096 then Ev (fun n => K n f) else if x.1 = 9 /\ 1 <= x.2.2.1 /\ x.2.2.1 <= 4096 then Ev (fun n => K n (IntKind.wrap .i64 (f * x.2.2.1))) else Ev S := by
 refine Ev.suc.trans ?_
 simp only [Z5.q21, Z5.q21.b, Z5.j0, wR, Ev.iteI, decide_eq_true_eq, decide_eq_false_iff_not, Ev.s1 K, Ev.s0 S, Bool.false_eq_true, if_false]
 (repeat' split) <;> first | rfl | (exfalso; omega)
theorem qKK {x : qA} {kw : List Int} {b : Bool} (hl : kw.length <= 4096) (hk : ∀ w ∈ kw, 0 <= w /\ w <= 4096) (hb : b = true ↔ x.1 = 3 /\ 1 < kw.length) (K : Nat -> Int -> Prop) (S : Nat -> Prop) :
  Ev (fun n => Z5.q9 n x kw (rd kw 0) b (K n) (S n)) ↔ if x.1 = 3 /\ 1 < kw.length then Ev (fun n => K n kw.sum) else if kw.length ≠ 1 then Ev (fun n => K n (-1)) else
   if x.1 = 4 /\ 0 <= x.2.2.2.1 /\ x.2.2.2.1 <= x.2.2.1 /\ x.2.2.1 < rd kw 0 then Ev (fun n => K n (x.2.2.1 - x.2.2.2.1 + 1))
   else if (x.1 = 5 \/ x.1 = 6) /\ 0 <= x.2.2.1 /\ x.2.2.1 <= 4096 then Ev (fun n => K n (rd kw 0 + x.2.2.1))
   else if (x.1 = 7 \/ x.1 = 8) /\ 0 <= x.2.2.1 /\ x.2.2.1 <= 4096 then Ev (fun n => K n (rd kw 0))
   else if x.1 = 9 /\ 1 <= x.2.2.1 /\ x.2.2.1 <= 4096 then Ev (fun n => K n (rd kw 0 * x.2.2.1)) else Ev S := by
 refine Ev.suc.trans ?_
 simp only [Z5.q9, Z5.q9.b, Z5.j1, Ev.iteI, hb]
 by_cases h3 : x.1 = 3 /\ 1 < kw.length
 ·rw [if_pos h3, if_pos h3, qGW hl hk kw 0 0 rfl (by omega) (by omega) (by omega), Ev.s1 K, Int.zero_add]
 rw [if_neg h3, if_neg h3]
 by_cases h1 : kw.length = 1
 ·have hf : 0 <= rd kw 0 /\ rd kw 0 <= 4096 := by
   match kw, h1, hk with
   | [w], _, hk => exact hk w List.mem_cons_self
  have h1' : (kw.length : Int) = 1 := by omega
  rw [if_neg (c := kw.length ≠ 1) (by omega)]
  simp only [h1', decide_true, Bool.not_true, Bool.false_eq_true, if_false]
  simp only [qIM, wR, Ev.iteI, decide_eq_true_eq, decide_eq_false_iff_not, Ev.s1 K, Ev.s0 S, Bool.false_eq_true, if_false, ge_iff_le]
  by_cases h4 : x.1 = 4
  ·simp only [h4, true_and, if_true, show ¬ (4 : Int) = 5 from by decide, show ¬ (4 : Int) = 6 from by decide, show ¬ (4 : Int) = 7 from by decide, show ¬ (4 : Int) = 8 from by decide, show ¬ (4 : Int) = 9 from by decide, or_self, false_and, if_false, not_false_eq_true]
   by_cases g1 : 0 <= x.2.2.2.1
   ·by_cases g2 : x.2.2.2.1 <= x.2.2.1
    ·by_cases g3 : x.2.2.1 < rd kw 0
     ·simp (disch := omega) only [g1, g2, g3, and_self, if_true, qG, decide_true]
     ·simp only [g1, g2, g3, and_false, if_true, if_false, decide_false, Bool.false_eq_true]
    ·simp only [g1, g2, false_and, and_false, if_true, if_false]
   ·simp only [g1, false_and, if_false]
  ·simp only [h4, false_and, if_false]
   by_cases h5 : (x.1 = 5 \/ x.1 = 6) /\ 0 <= x.2.2.1 /\ x.2.2.1 <= 4096
   ·have e : IntKind.wrap .i64 (rd kw 0 + x.2.2.1) = rd kw 0 + x.2.2.1 := qG (by omega) (by omega)
    rw [if_pos h5, e]
    rcases h5 with ⟨h5 | h5, h6⟩
    ·simp only [h5, h6, not_true, if_false, if_true, and_self]
    ·simp only [h5, h6, show ¬ (6 : Int) = 5 from by decide, not_false_eq_true, if_true, and_self]
   ·rw [if_neg h5]
    have e : 1 <= x.2.2.1 /\ x.2.2.1 <= 4096 -> IntKind.wrap .i64 (rd kw 0 * x.2.2.1) = rd kw 0 * x.2.2.1 := fun h => by
     have := qQx hf.1 (by omega) (show 0 <= x.2.2.1 by omega) h.2
     exact qG (by omega) (by omega)
    (repeat' split) <;> first | rfl | (exfalso; omega) | (exfalso; simp_all; done) | (rw [e (by omega)])
 ·have h1' : ¬ (kw.length : Int) = 1 := by omega
  simp only [h1, h1', ne_eq, not_false_eq_true, if_true, decide_false, Bool.not_false, Ev.s1 K]
theorem qDZ {x : qA} {d : List qQ} {kw : List Int} {b : Bool} (hl : kw.length <= 4096) (hk : ∀ w ∈ kw, 0 <= w /\ w <= 4096) (hb : b = true ↔ x.1 = 1 /\ kw.length = 0 /\ 0 <= x.2.1 /\ x.2.1 <= (d.length : Int) - 1) (R : Nat -> Int -> Prop) :
  Ev (fun n => Z5.q5 n x d kw (rd kw 0) b (R n) (R n (-1))) ↔ Ev (fun n => R n (yO d x kw)) := by
 refine Ev.suc.trans ?_
 simp only [Z5.q5, Z5.q5.b, Z5.j2, Ev.iteI, yO]
 by_cases h1 : x.1 = 1 /\ kw.length = 0 /\ 0 <= x.2.1 /\ x.2.1 <= (d.length : Int) - 1
 ·simp (disch := omega) only [hb.2 h1, if_true, qB, Ev.s1 R]
  rw [if_pos h1]
 have hb' : ¬ b = true := fun h => h1 (hb.1 h)
 rw [if_neg hb', if_neg h1]
 have q9 : ∀ (c : Bool), (c = true ↔ x.1 = 3 /\ 1 < kw.length) -> ((Ev fun n => Z5.q9 n x kw (rd kw 0) c (R (n + 1)) (R (n + 1) (-1))) ↔ Ev (fun n => R n (if x.1 = 3 /\ 1 < kw.length then kw.sum
   else if kw.length ≠ 1 then -1
   else if x.1 = 4 /\ 0 <= x.2.2.2.1 /\ x.2.2.2.1 <= x.2.2.1 /\ x.2.2.1 < rd kw 0 then x.2.2.1 - x.2.2.2.1 + 1
   else if (x.1 = 5 \/ x.1 = 6) /\ 0 <= x.2.2.1 /\ x.2.2.1 <= 4096 then rd kw 0 + x.2.2.1
   else if (x.1 = 7 \/ x.1 = 8) /\ 0 <= x.2.2.1 /\ x.2.2.1 <= 4096 then rd kw 0
   else if x.1 = 9 /\ 1 <= x.2.2.1 /\ x.2.2.1 <= 4096 then rd kw 0 * x.2.2.1
   else -1))) := fun c hc => by
  rw [qKK hl hk hc (fun n => R (n + 1)) (fun n => R (n + 1) (-1))]
  simp only [Ev.s1 R]
  (repeat' split) <;> first | rfl | (exfalso; omega)
 simp only [decide_eq_true_eq, Bool.false_eq_true, if_false, qFv, Ev.iteI, Ev.s1 R]
 have f3 : ¬ (x.1 = 3 /\ 1 < kw.length) -> (false = true ↔ x.1 = 3 /\ 1 < kw.length) := fun h => iff_of_false Bool.false_ne_true h
 by_cases h2 : x.1 = 2
 ·have h3 : ¬ x.1 = 3 := by omega
  have h3' : ¬ (x.1 = 3 /\ 1 < kw.length) := by omega
  rw [if_pos h2]
  by_cases h4 : kw.length = 0
  ·have h4' : (kw.length : Int) = 0 := by omega
   rw [if_pos h4']
   by_cases h5 : zM x.2.2.2.2.1 x.2.2.2.2.2.1 = true
   ·rw [if_pos h5, if_pos ⟨h2, h4, h5⟩]
   ·rw [if_neg h5, if_neg h3, q9 false (f3 h3'), if_neg (c := x.1 = 2 /\ kw.length = 0 /\ zM x.2.2.2.2.1 x.2.2.2.2.2.1 = true) (fun h => h5 h.2.2)]
  ·have h4' : ¬ (kw.length : Int) = 0 := by omega
   rw [if_neg h4', if_neg h3, q9 false (f3 h3'), if_neg (c := x.1 = 2 /\ kw.length = 0 /\ zM x.2.2.2.2.1 x.2.2.2.2.2.1 = true) (fun h => h4 h.2.1)]
 ·rw [if_neg h2, if_neg (c := x.1 = 2 /\ kw.length = 0 /\ zM x.2.2.2.2.1 x.2.2.2.2.2.1 = true) (fun h => h2 h.1)]
  by_cases h3 : x.1 = 3
  ·rw [if_pos h3, q9 _ (by rw [decide_eq_true_eq]; omega)]
  ·rw [if_neg h3, q9 false (f3 (fun h => h3 h.1))]
theorem qKL {x : qA} {d : List qQ} {kw : List Int} (hd : d.length <= 1099511627776) (hl : kw.length <= 4096) (hk : ∀ w ∈ kw, 0 <= w /\ w <= 4096) (R : Nat -> Int -> Prop) :
  Ev (fun n => Z5.c n x d kw (R n)) ↔ Ev (fun n => R n (yO d x kw)) := by
 refine Ev.suc.trans ?_
 have key : ∀ (f : Int), f = rd kw 0 -> ((Ev fun n => Z5.j3 (R (n + 1)) x d kw (Z5.q5 n) n f) ↔ Ev (fun n => R n (yO d x kw))) := by
  rintro f rfl
  simp (disch := omega) only [Z5.j3, Ev.iteI, decide_eq_true_eq, wR, qG]
  by_cases h1 : x.1 = 1
  ·by_cases h2 : (kw.length : Int) = 0
   ·rw [if_pos h1, if_pos h2, qDZ hl hk (by rw [decide_eq_true_eq]; omega) (fun n => R (n + 1)), Ev.s1 R]
   ·rw [if_pos h1, if_neg h2, qDZ hl hk (iff_of_false Bool.false_ne_true (by omega)) (fun n => R (n + 1)), Ev.s1 R]
  ·rw [if_neg h1, qDZ hl hk (iff_of_false Bool.false_ne_true (by omega)) (fun n => R (n + 1)), Ev.s1 R]
 simp only [Z5.c, Z5.w, Ev.iteI, decide_eq_true_eq]
 by_cases h : (kw.length : Int) > 0
 ·rw [if_pos h]
  simp (disch := omega) only [jT]
  exact key _ rfl
 ·rw [if_neg h]
  refine key 0 ?_
  match kw, h with
  | [], _ => rfl
  | _ :: _, h => simp at h
def vZ (x : qA) : Bool := decide (((4 <= x.1 /\ x.1 <= 9) \/ x.2.2.1 = 0) /\ (x.1 = 4 \/ x.2.2.2.1 = 0) /\ (x.1 = 1 \/ x.2.1 = 0) /\ (x.1 = 2 \/ (x.2.2.2.2.1 = 0 /\ x.2.2.2.2.2.1.length = 0)))
theorem qKY {x : qA} {b : Bool} (R : Nat -> Bool -> Prop) (S : Nat -> qA -> Prop) :
  Ev (fun n => Z4.q3 n x b (R n) (S n)) ↔ if b = true then Ev (fun n => R n false) else Ev (fun n => S n x) := by
 refine Ev.suc.trans ?_
 simp only [Z4.q3, Z4.q3.b, Ev.iteI, Ev.s1 R, Ev.s1 S]
theorem qHd {x : qA} {b : Bool} (hb : b = true ↔ (4 <= x.1 /\ x.1 <= 9)) (R : Nat -> Bool -> Prop) :
  Ev (fun n => Z4.q2 n x b (R n)) ↔ Ev (fun n => R n (vZ x)) := by
 refine Ev.suc.trans ?_
 have hb' : b = false ↔ ¬ (4 <= x.1 /\ x.1 <= 9) := by rw [<- hb]; simp
 simp only [Z4.q2, Z4.q2.b, Z4.j0, qKY, Ev.iteI, Ev.s1 R, Bool.not_eq_true', Bool.not_eq_false', decide_eq_true_eq, decide_eq_false_iff_not, Bool.false_eq_true, if_false, if_true, hb']
 (repeat' split) <;> first
  | (refine zB ?_; symm; rw [vZ, decide_eq_false_iff_not]; omega)
  | (refine zB ?_; symm; rw [vZ, decide_eq_true_eq]; omega)
  | (refine zB ?_; rw [vZ, decide_eq_decide]; omega)
theorem qKZ {x : qA} (R : Nat -> Bool -> Prop) : Ev (fun n => Z4.c n x (R n)) ↔ Ev (fun n => R n (vZ x)) := by
 refine Ev.suc.trans ?_
 simp only [Z4.c, Z4.w, Ev.iteI, decide_eq_true_eq, ge_iff_le]
 split
 ·rename_i h; rw [qHd (by rw [decide_eq_true_eq]; omega) (fun n => R (n + 1)), Ev.s1 R]
 ·rename_i h; rw [qHd (by simp; omega) (fun n => R (n + 1)), Ev.s1 R]
def jF (i : Int) (ks : List Int) : Bool := ks.all fun k => decide (0 <= k /\ k <= i - 1)
theorem jW {i y : Int} {ys : List Int} : jF i (y :: ys) = true ↔ (0 <= y /\ y <= i - 1) /\ jF i ys = true := by
 rw [jF, jF, List.all_cons, Bool.and_eq_true, decide_eq_true_eq]
def kY (d : List qQ) (x : qA) : Bool := decide ((x.1 = 1 /\ x.2.2.2.2.2.2.length = 0 /\ 0 <= x.2.1 /\ x.2.1 <= (d.length : Int) - 1) \/ (x.1 = 2 /\ x.2.2.2.2.2.2.length = 0 /\ zM x.2.2.2.2.1 x.2.2.2.2.2.1 = true) \/ (x.1 = 3 /\ 2 <= x.2.2.2.2.2.2.length) \/ (4 <= x.1 /\ x.1 <= 9 /\ x.2.2.2.2.2.2.length = 1))
theorem qJp {a : Int} {l : List Int} (R : Nat -> Bool -> Prop) : Ev (fun n => Z76.c n a l (R n)) ↔ Ev (fun n => R n (decide (a = 0 /\ l.length = 0))) := by
 refine Ev.suc.trans ?_
 simp only [Z76.c, Z76.w, Ev.iteI, decide_eq_true_eq, Ev.s1 R]
 split
 ·refine zB ?_; rw [decide_eq_decide]; omega
 ·refine zB ?_; symm; rw [decide_eq_false_iff_not]; omega
theorem qHt {a : Int} (R : Nat -> Bool -> Prop) : Ev (fun n => Z77.c n a (R n)) ↔ Ev (fun n => R n (decide (4 <= a /\ a <= 9))) := by
 refine Ev.suc.trans ?_
 simp only [Z77.c, Z77.w, xY, Ev.s1 R]
theorem qJP {d : List qQ} {i a b c e f : Int} {w ks : List Int} (hl : ks.length <= 1099511627776) (hi0 : 0 <= i) (hi : i <= 1048576) : ∀ (ys : List Int) (x : Int), ks.drop x.toNat = ys -> 0 <= x ->
  ∀ (Kx : Nat -> List qQ -> Int -> Int -> Int -> Int -> Int -> List Int -> List Int -> Prop) (Kr : Nat -> Bool -> Prop),
  (Ev (fun n => Z75.l2 n d i a b c e f w ks x (Kx n) (Kr n)) ↔ if jF i ys = true then Ev (fun n => Kx n d a b c e f w ks) else Ev (fun n => Kr n false))
 | [], x, h, h0, Kx, Kr => by
  have := qO h h0
  refine Ev.suc.trans ?_
  simp (disch := omega) only [Z75.l2, Z75.l2.b, if_neg, decide_eq_true_eq, Ev.s8 Kx, jF, List.all_nil, if_true]
 | y :: ys, x, h, h0, Kx, Kr => by
  obtain ⟨e1, e2, e3⟩ := qD h h0
  refine Ev.suc.trans ?_
  simp (disch := omega) only [Z75.l2, Z75.l2.b, if_pos, decide_eq_true_eq, decide_eq_false_iff_not, Bool.not_eq_true', qB, e2, qG, xY, Ev.iteI, Ev.s1 Kr]
  rw [qJP hl hi0 hi ys (x + 1) e3 (by omega), Ev.s1 Kr, Ev.s8 Kx]
  simp only [jW]
  by_cases h1 : 0 <= y /\ y <= i - 1
  ·rw [if_neg (fun h => h h1)]
   simp only [h1, true_and, and_self]
  ·rw [if_pos h1, if_neg (fun h => h1 h.1)]
theorem qMN {d : List qQ} {g : Bool} {a b c e f : Int} {w ks : List Int} (R : Nat -> Bool -> Prop) (S : Nat -> List qQ -> Int -> Int -> Int -> Int -> Int -> List Int -> List Int -> Prop) :
  Ev (fun n => Z75.q7 n d g a b c e f w ks (R n) (S n)) ↔ if g = true then Ev (fun n => R n false) else Ev (fun n => S n d a b c e f w ks) := by
 refine Ev.suc.trans ?_
 simp only [Z75.q7, Z75.q7.b, Ev.iteI, Ev.s1 R, Ev.s8 S]
theorem qMM {d : List qQ} {a b c e f : Int} {w ks : List Int} (hd : d.length <= 1099511627776) (hw : Wd w) (R : Nat -> Bool -> Prop) :
  Ev (fun n => Z75.q8 n d a b c e f w ks (R n)) ↔ Ev (fun n => R n (kY d (a, b, c, e, f, w, ks))) := by
 refine Ev.suc.trans ?_
 simp (disch := first | assumption | omega) only [Z75.q8, Z75.q8.b, Ev.iteI, decide_eq_true_eq, xY, qHt, qI3, qG, Ev.s1 R]
 have key : ∀ (b' : Bool), (b' = true ↔ kY d (a, b, c, e, f, w, ks) = true) -> ((Ev fun n => R n b') ↔ Ev fun n => R n (kY d (a, b, c, e, f, w, ks))) := fun b' h => by
  rw [Bool.eq_iff_iff.2 h]
 simp only [kY, decide_eq_true_eq] at key
 (repeat' split) <;> refine key _ ?_ <;> first
  | (simp only [decide_eq_true_eq, Bool.false_eq_true, false_iff]; omega)
  | (simp only [decide_eq_true_eq, Bool.false_eq_true, false_iff]; constructor <;> intro h <;> simp_all <;> omega)
  | (simp_all; done) | (simp_all; omega)
theorem qMO {d : List qQ} {i a b c e f : Int} {w ks : List Int} (hd : d.length <= 1099511627776) (hw : Wd w) (hl : ks.length <= 1099511627776) (hi0 : 0 <= i) (hi : i <= 1048576) (R : Nat -> Bool -> Prop) :
  Ev (fun n => Z75.c n d a b c e f w ks i (R n)) ↔ Ev (fun n => R n (jF i ks && vZ (a, b, c, e, f, w, ks) && kY d (a, b, c, e, f, w, ks))) := by
 refine Ev.suc.trans ?_
 simp only [Z75.c, Z75.w]
 rw [qJP hl hi0 hi ks 0 rfl (by omega)]
 by_cases hk : jF i ks = true
 ·rw [if_pos hk, hk, Bool.true_and]
  simp only [Ev.iteI, Bool.not_eq_true', Bool.not_eq_false', decide_eq_true_eq, decide_eq_false_iff_not, qJp, qHt, qMN, qMM hd hw, Ev.s1 R, Bool.false_eq_true, if_false, if_true]
  have T : vZ (a, b, c, e, f, w, ks) = true -> ((Ev fun n => R n (kY d (a, b, c, e, f, w, ks))) ↔ Ev fun n => R n (vZ (a, b, c, e, f, w, ks) && kY d (a, b, c, e, f, w, ks))) := fun h => by rw [h, Bool.true_and]
  have F : vZ (a, b, c, e, f, w, ks) = false -> ((Ev fun n => R n false) ↔ Ev fun n => R n (vZ (a, b, c, e, f, w, ks) && kY d (a, b, c, e, f, w, ks))) := fun h => by rw [h, Bool.false_and]
  simp only [vZ, decide_eq_true_eq, decide_eq_false_iff_not] at T F
  (repeat' split) <;> first
   | (refine T ?_; omega)
   | (refine F ?_; omega)
 ·rw [if_neg hk, show jF i ks = false from by simpa using hk, Bool.false_and, Bool.false_and, Ev.s1 R]
def WOk (l : List Int) : Prop := ∀ w ∈ l, 1 <= w /\ w <= 4096
theorem WOk.cons {y : Int} {r : List Int} (h : WOk (y :: r)) : (1 <= y /\ y <= 4096) /\ WOk r := ⟨h y List.mem_cons_self, fun w hw => h w (List.mem_cons_of_mem _ hw)⟩
def wA (s : Int) : List Int -> Int
 | [] => s
 | y :: r => wA (if s + y < 8192 then s + y else 8192) r
theorem qG4 : ∀ {l : List Int}, WOk l -> (l.length : Int) <= l.sum
 | [], _ => by simp
 | y :: r, h => by
  have := qG4 h.cons.2
  have := h.cons.1
  rw [List.sum_cons, List.length_cons]; omega
theorem qDR : ∀ {r : List Int}, WOk r -> wA 8192 r = 8192
 | [], _ => rfl
 | y :: r, h => by
  have := h.cons.1
  rw [wA, if_neg (by omega), qDR h.cons.2]
theorem qBf : ∀ {l : List Int} {s : Int}, 0 <= s -> s <= 8192 -> WOk l -> wA s l = if s + l.sum < 8192 then s + l.sum else 8192
 | [], s, h0, h1, hw => by
  rw [wA, List.sum_nil]; split <;> omega
 | y :: r, s, h0, h1, hw => by
  have hy := hw.cons.1
  have hr := hw.cons.2
  have hs := qG4 hr
  rw [wA, List.sum_cons]
  by_cases h : s + y < 8192
  ·rw [if_pos h, qBf (by omega) (by omega) hr]
   simp only [Int.add_assoc]
  ·rw [if_neg h, qDR hr, if_neg (by omega)]
def acc (w : Int) : Option Int := if 1 <= w /\ w <= 4096 then some w else none
def qBt (d : List qQ) (x : qA) (s : Int) : Int :=
 if x.1 = 1 then (rd d x.2.1.toNat).2
 else if x.1 = 2 then x.2.2.2.2.1
 else if x.1 = 4 then (if x.2.2.2.1 < 0 \/ x.2.2.1 < x.2.2.2.1 \/ x.2.2.1 >= s then -1 else x.2.2.1 - x.2.2.2.1 + 1)
 else if x.1 = 5 \/ x.1 = 6 then (if 0 <= x.2.2.1 /\ x.2.2.1 <= 4096 then s + x.2.2.1 else -1)
 else if x.1 = 7 \/ x.1 = 8 then (if 0 <= x.2.2.1 /\ x.2.2.1 <= 4096 then s else -1)
 else if x.1 = 9 then (if 1 <= x.2.2.1 /\ x.2.2.1 <= 4096 then s * x.2.2.1 else -1)
 else s
theorem qK1 {d : List qQ} {x : qA} {w : Int} (h1 : 4 <= x.1) (h2 : x.1 <= 9) : yO d x [w] = qBt d x w := by
 have e : rd [w] 0 = w := rfl
 have e1 : [w].length = 1 := rfl
 rw [yO, e, e1, if_neg (by omega), if_neg (by omega), if_neg (by omega), if_neg (by omega), qBt, if_neg (c := x.1 = 1) (by omega), if_neg (c := x.1 = 2) (by omega)]
 have h : x.1 = 4 \/ x.1 = 5 \/ x.1 = 6 \/ x.1 = 7 \/ x.1 = 8 \/ x.1 = 9 := by omega
 rcases h with h | h | h | h | h | h
 ·rw [if_pos (c := x.1 = 4) h]
  by_cases c : 0 <= x.2.2.2.1 /\ x.2.2.2.1 <= x.2.2.1 /\ x.2.2.1 < w
  ·rw [if_pos ⟨h, c⟩, if_neg (by omega)]
  ·rw [if_neg (fun hh => c hh.2), if_neg (by omega), if_neg (by omega), if_neg (by omega), if_pos (by omega)]
 all_goals
  rw [if_neg (c := x.1 = 4) (by omega), if_neg (by omega)]
 ·rw [if_pos (c := x.1 = 5 \/ x.1 = 6) (by omega)]
  by_cases c : 0 <= x.2.2.1 /\ x.2.2.1 <= 4096
  ·rw [if_pos ⟨Or.inl h, c⟩, if_pos c]
  ·rw [if_neg (fun hh => c hh.2), if_neg (by omega), if_neg (by omega), if_neg c]
 ·rw [if_pos (c := x.1 = 5 \/ x.1 = 6) (by omega)]
  by_cases c : 0 <= x.2.2.1 /\ x.2.2.1 <= 4096
  ·rw [if_pos ⟨Or.inr h, c⟩, if_pos c]
  ·rw [if_neg (fun hh => c hh.2), if_neg (by omega), if_neg (by omega), if_neg c]
 ·rw [if_neg (c := x.1 = 5 \/ x.1 = 6) (by omega), if_neg (by omega), if_pos (c := x.1 = 7 \/ x.1 = 8) (by omega)]
  by_cases c : 0 <= x.2.2.1 /\ x.2.2.1 <= 4096
  ·rw [if_pos ⟨Or.inl h, c⟩, if_pos c]
  ·rw [if_neg (fun hh => c hh.2), if_neg (by omega), if_neg c]
 ·rw [if_neg (c := x.1 = 5 \/ x.1 = 6) (by omega), if_neg (by omega), if_pos (c := x.1 = 7 \/ x.1 = 8) (by omega)]
  by_cases c : 0 <= x.2.2.1 /\ x.2.2.1 <= 4096
  ·rw [if_pos ⟨Or.inr h, c⟩, if_pos c]
  ·rw [if_neg (fun hh => c hh.2), if_neg (by omega), if_neg c]
 ·rw [if_neg (c := x.1 = 5 \/ x.1 = 6) (by omega), if_neg (by omega), if_neg (by omega), if_neg (c := x.1 = 7 \/ x.1 = 8) (by omega), if_pos (c := x.1 = 9) h]
  by_cases c : 1 <= x.2.2.1 /\ x.2.2.1 <= 4096
  ·rw [if_pos ⟨h, c⟩, if_pos c]
  ·rw [if_neg (fun hh => c hh.2), if_neg c]
theorem qIY {d : List qQ} {x : qA} {kw : List Int} (hw : WOk kw) (hl : kw.length = x.2.2.2.2.2.2.length) :
  (if x.2.2.2.2.2.2.length <= 4096 then acc (yO d x kw) else none) = if kY d x = true then acc (qBt d x (wA 0 kw)) else none := by
 rw [<- hl]
 rw [qBf (by omega) (by omega) hw, Int.zero_add]
 have hs := qG4 hw
 by_cases hk : kY d x = true
 ·rw [if_pos hk]
  rw [kY, decide_eq_true_eq, <- hl] at hk
  rcases hk with ⟨h1, h2, h3, h4⟩ | ⟨h1, h2, h3⟩ | ⟨h1, h2⟩ | ⟨h1, h2, h3⟩
  ·rw [if_pos (by omega), yO, if_pos ⟨h1, h2, h3, h4⟩, qBt, if_pos h1]
  ·rw [if_pos (by omega), yO, if_neg (by omega), if_pos ⟨h1, h2, h3⟩, qBt, if_neg (by omega), if_pos h1]
  ·have hn : yO d x kw = kw.sum := by rw [yO, if_neg (by omega), if_neg (by omega), if_pos (by omega)]
   have hq : ∀ s, qBt d x s = s := fun s => by rw [qBt, if_neg (by omega), if_neg (by omega), if_neg (by omega), if_neg (by omega), if_neg (by omega), if_neg (by omega)]
   rw [hn, hq]
   unfold acc
   (repeat' split) <;> first | rfl | (exfalso; omega)
  ·rw [if_pos (by omega)]
   match kw, h3, hw with
   | [w], _, hw =>
    have h := hw w List.mem_cons_self
    have hs : (if [w].sum < 8192 then [w].sum else 8192) = w := by
     simp only [List.sum_cons, List.sum_nil, Int.add_zero]; rw [if_pos (by omega)]
    rw [hs]
    have hn := qK1 (d := d) (x := x) (w := w) h1 h2
    rw [hn]
 ·rw [if_neg hk]
  rw [kY, decide_eq_true_eq, <- hl] at hk
  have : yO d x kw = -1 := by
   rw [yO, if_neg (by omega), if_neg (by rintro ⟨h1, h2, h3⟩; exact hk (Or.inr (Or.inl ⟨h1, h2, h3⟩))), if_neg (by omega)]
   by_cases h1 : kw.length ≠ 1
   ·rw [if_pos h1]
   ·rw [if_neg h1, if_neg (by omega), if_neg (by omega), if_neg (by omega), if_neg (by omega)]
  rw [this]
  split <;> rfl
def kX (d : List qQ) (x : qA) (wide : List Int) : Option Int :=
 if jF wide.length x.2.2.2.2.2.2 = true /\ vZ x = true /\ kY d x = true then acc (qBt d x (wA 0 (x.2.2.2.2.2.2.map fun k => rd wide k.toNat))) else none
def zS (u : List Bool) : List Int -> List Bool
 | [] => u
 | k :: r => zS (u.set k.toNat true) r
theorem vG : ∀ {ks : List Int} {u : List Bool}, (zS u ks).length = u.length
 | [], u => rfl
 | k :: r, u => by rw [zS, vG, List.length_set]
def jI (d : List qQ) : List qA -> List Int -> List Bool -> Option (List Int × List Bool)
 | [], wide, used => some (wide, used)
 | x :: r, wide, used => match kX d x wide with
  | some w => jI d r (wide ++ [w]) (zS used x.2.2.2.2.2.2)
  | none => none
theorem qJe {l : List Int} {k : Int} (h0 : 0 <= k) (h1 : k < (l.length : Int)) : rd l k.toNat ∈ l := by
 rw [rd, List.getD_eq_getElem?_getD, List.getElem?_eq_getElem (by omega)]
 exact List.getElem_mem _
theorem qBS {α : Type} [Inhabited α] {a b : List α} {k : Nat} (h : k < a.length) : rd (a ++ b) k = rd a k := by
 rw [rd, rd, List.getD_eq_getElem?_getD, List.getD_eq_getElem?_getD, List.getElem?_append_left h]
theorem qCj {wide ks : List Int} (hw : WOk wide) (hk : jF wide.length ks = true) : WOk (ks.map fun k => rd wide k.toNat) := by
 intro w hw'
 obtain ⟨k, hk', rfl⟩ := List.mem_map.1 hw'
 rw [jF, List.all_eq_true] at hk
 have := hk k hk'
 rw [decide_eq_true_eq] at this
 exact hw _ (qJe this.1 (by omega))
theorem qHW {w v : Int} (h : acc w = some v) : v = w /\ 1 <= w /\ w <= 4096 := by
 unfold acc at h
 split at h
 ·rename_i hh; cases h; exact ⟨rfl, hh⟩
 ·cases h
theorem qG6 {d : List qQ} {x : qA} {wide : List Int} {w : Int} (h : kX d x wide = some w) : 1 <= w /\ w <= 4096 := by
 unfold kX at h
 split at h
 ·obtain ⟨rfl, h1⟩ := qHW h; exact h1
 ·cases h
theorem WOk.app {wide : List Int} {w : Int} (h : WOk wide) (hw : 1 <= w /\ w <= 4096) : WOk (wide ++ [w]) := by
 intro v hv
 rcases List.mem_append.1 hv with hv | hv
 ·exact h v hv
 ·rw [List.mem_singleton] at hv; subst hv; exact hw
theorem kJ {d : List qQ} : ∀ {ys : List qA} {wide : List Int} {used : List Bool} {r : List Int × List Bool}, WOk wide -> jI d ys wide used = some r -> WOk r.1 /\ r.1.length = wide.length + ys.length /\ r.2.length = used.length
 | [], wide, used, r, hw, h => by
  rw [jI] at h; cases h; exact ⟨hw, rfl, rfl⟩
 | x :: ys, wide, used, r, hw, h => by
  rw [jI] at h
  cases hs : kX d x wide with
  | none => rw [hs] at h; cases h
  | some w =>
   rw [hs] at h
   obtain ⟨h1, h2, h3⟩ := kJ (hw.app (qG6 hs)) h
   refine ⟨h1, ?_, ?_⟩
   ·rw [h2]; simp; omega
   ·rw [h3, vG]
theorem qJG {d : List qQ} {m i a b : Int} {x : qA} {ks out : List Int} {nodes : List qA} (hl : ks.length <= 4096) (hi0 : 0 <= i) (hi : i <= (out.length : Int)) (hi' : i <= 1048576) : ∀ (ys : List Int) (j : Int) (used : List Bool) (kw : List Int), ks.drop j.toNat = ys -> 0 <= j -> i <= (used.length : Int) -> kw.length = ks.length ->
  ∀ (Kx : Nat -> List qQ -> Int -> Int -> qA -> Int -> Int -> List Int -> List Bool -> List Int -> List qA -> Prop) (Kr : Nat -> Bool -> List Int -> Prop),
  (Ev (fun n => Z21.l13 n d m i x a b ks ks.length out nodes j used kw (Kx n) (Kr n)) ↔
   if jF i ys = true then Ev (fun n => Kx n d m i x a b out (zS used ys) (kw.take j.toNat ++ ys.map fun k => rd out k.toNat) nodes) else Ev (fun n => Kr n false []))
 | [], j, used, kw, h, h0, hu, hkw, Kx, Kr => by
  have := qO h h0
  refine Ev.suc.trans ?_
  simp (disch := omega) only [Z21.l13, Z21.l13.b, if_neg, decide_eq_true_eq, Ev.s10 Kx, jF, List.all_nil, if_true, zS, List.map_nil, List.append_nil]
  rw [List.take_of_length_le (by omega)]
 | y :: ys, j, used, kw, h, h0, hu, hkw, Kx, Kr => by
  obtain ⟨e1, e2, e3⟩ := qD h h0
  refine Ev.suc.trans ?_
  simp (disch := omega) only [Z21.l13, Z21.l13.b, if_pos, decide_eq_true_eq, decide_eq_false_iff_not, Bool.not_eq_true', qB, e2, qG, wR, Ev.iteI, Ev.s2 Kr]
  by_cases h1 : 0 <= y /\ y <= i - 1
  ·rw [if_neg (fun h => h h1)]
   rw [qJG hl hi0 hi hi' ys (j + 1) _ _ e3 (by omega) (by simpa using hu) (by simpa using hkw), Ev.s10 Kx, Ev.s2 Kr, wH (by omega) (by omega)]
   simp only [jW, h1, and_self, true_and, zS, List.map_cons, List.append_assoc, List.singleton_append]
  ·rw [if_pos h1, if_neg]
   rw [jW]
   exact fun h => h1 h.1
theorem qEP {d : List qQ} {t : List qA} (hd : d.length <= 1099511627776) (ht : t.length <= 400) : ∀ (ys : List qA) (wide z : List Int) (used : List Bool), t.drop wide.length = ys -> (wide ++ z).length = t.length -> used.length = t.length -> WOk wide ->
  ∀ (Kx : Nat -> Int -> List Int -> List Bool -> Prop) (Kr : Nat -> Bool -> List Int -> Prop),
  (Ev (fun n => Z21.l6 n d t.length t.length wide.length (wide ++ z) used t (Kx n) (Kr n)) ↔ match jI d ys wide used with
   | some r => Ev (fun n => Kx n t.length r.1 r.2)
   | none => Ev (fun n => Kr n false []))
 | [], wide, z, used, h, hz, hu, hw, Kx, Kr => by
  have hle := List.drop_eq_nil_iff.1 h
  have hz0 : z = [] := by
   rw [List.length_append] at hz
   exact List.eq_nil_of_length_eq_zero (by omega)
  subst hz0
  refine Ev.suc.trans ?_
  simp (disch := omega) only [Z21.l6, Z21.l6.b, if_neg, decide_eq_true_eq, Ev.s3 Kx, jI, List.append_nil]
 | x :: ys, wide, z, used, h, hz, hu, hw, Kx, Kr => by
  have h' : t.drop (wide.length : Int).toNat = x :: ys := h
  obtain ⟨e1, e2, e3⟩ := qD h' (by omega)
  have e2' : rd t wide.length = x := e2
  rw [List.length_append] at hz
  refine Ev.suc.trans ?_
  simp (disch := omega) only [Z21.l6, Z21.l6.b, if_pos, decide_eq_true_eq, Ev.iteI, qB, Int.toNat_natCast, e2', Ev.s2 Kr]
  rw [jI]
  have hse := qIY (d := d) (x := x) (kw := x.2.2.2.2.2.2.map fun k => rd wide k.toNat)
  by_cases hk : x.2.2.2.2.2.2.length <= 4096
  ·rw [if_neg (by omega)]
   simp (disch := omega) only [qB, decide_true, Bool.and_true]
   rw [qJG hk (by omega) (by rw [List.length_append]; omega) (by omega) x.2.2.2.2.2.2 0 _ _ rfl (by omega) (by omega) (by simp), Ev.s2 Kr]
   by_cases hin : jF wide.length x.2.2.2.2.2.2 = true
   ·rw [if_pos hin]
    have hwk := qCj hw hin
    have hmap : (x.2.2.2.2.2.2.map fun k => rd (wide ++ z) k.toNat) = x.2.2.2.2.2.2.map fun k => rd wide k.toNat := by
     apply List.map_congr_left
     intro k hk'
     rw [jF, List.all_eq_true] at hin
     have := hin k hk'
     rw [decide_eq_true_eq] at this
     exact qBS (by omega)
    have hse := hse hwk (by simp)
    rw [if_pos hk] at hse
    simp only [Int.toNat_zero, List.take_zero, List.nil_append, hmap]
    simp (disch := first | assumption | (simp only [List.length_map, List.length_append, List.length_set]; omega) | omega) only [qKL hd (by simpa using hk) (fun w hw' => ⟨by have := hwk w hw'; omega, (hwk w hw').2⟩), qKZ, Ev.iteI, Bool.not_eq_false', qB, qA1, Int.toNat_natCast, wR, Bool.not_eq_true', decide_eq_false_iff_not, qG, Ev.s2 Kr]
    by_cases hp : vZ x = true
    ·rw [if_pos hp]
     have hst : kX d x wide = acc (yO d x (x.2.2.2.2.2.2.map fun k => rd wide k.toNat)) := by
      rw [hse, kX]
      by_cases hkb : kY d x = true
      ·rw [if_pos ⟨hin, hp, hkb⟩, if_pos hkb]
      ·rw [if_neg (fun h => hkb h.2.2), if_neg hkb]
     by_cases hacc : 1 <= yO d x (x.2.2.2.2.2.2.map fun k => rd wide k.toNat) /\ yO d x (x.2.2.2.2.2.2.map fun k => rd wide k.toNat) <= 4096
     ·rw [if_neg (fun h => h hacc)]
      rw [hst, acc, if_pos hacc]
      simp only []
      match z, hz with
      | [], hz => simp at hz; omega
      | v :: z, hz =>
       have es : (wide ++ v :: z).set wide.length (yO d x (x.2.2.2.2.2.2.map fun k => rd wide k.toNat)) = (wide ++ [yO d x (x.2.2.2.2.2.2.map fun k => rd wide k.toNat)]) ++ z := by
        rw [List.set_append_right _ _ (Nat.le_refl _), Nat.sub_self, List.set_cons_zero, List.append_assoc]; rfl
       rw [es]
       have el : ((wide.length : Int) + 1) = ((wide ++ [yO d x (x.2.2.2.2.2.2.map fun k => rd wide k.toNat)]).length : Int) := by simp
       rw [el, qEP hd ht ys _ z _ (by rw [<- e3, List.length_append]; rfl) (by simp at hz ⊢; omega) (by rw [vG]; exact hu) (hw.app hacc)]
       cases jI d ys (wide ++ [yO d x (x.2.2.2.2.2.2.map fun k => rd wide k.toNat)]) (zS used x.2.2.2.2.2.2) with
       | none => exact Ev.s2 Kr _ _
       | some r => exact Ev.s3 Kx _ _ _
     ·rw [if_pos hacc, hst, acc, if_neg hacc]
    ·rw [if_neg hp, kX, if_neg (fun h => hp h.2.1)]
   ·rw [if_neg hin, kX, if_neg (fun h => hin h.1)]
  ·rw [if_pos (by omega)]
   have : kX d x wide = none := by
    unfold kX
    split
    ·rename_i hh
     have hse := hse (qCj hw hh.1) (by simp)
     rw [if_neg hk, if_pos hh.2.2] at hse
     exact hse.symm
    ·rfl
   rw [this]
theorem qLU {l : List Bool} {v : Bool} (hl : l.length <= 1099511627776) : ∀ (ys : List Bool) (x : Int), l.drop x.toNat = ys -> 0 <= x ->
  ∀ (Kx : Nat -> Prop) (Kr : Nat -> Int -> Prop),
  (Ev (fun n => Z63.l2 n l v l.length x (Kx n) (Kr n)) ↔ if qR (fun y => v == y) ys x < 0 then Ev Kx else Ev (fun n => Kr n (qR (fun y => v == y) ys x)))
 | [], x, h, h0, Kx, Kr => by
  have := qO h h0
  rw [qR, if_pos (by decide)]
  refine Ev.suc.trans ?_
  simp (disch := omega) only [Z63.l2, Z63.l2.b, if_neg, decide_eq_true_eq, Ev.s0 Kx]
 | y :: ys, x, h, h0, Kx, Kr => by
  obtain ⟨e1, e2, e3⟩ := qD h h0
  refine Ev.suc.trans ?_
  simp (disch := first | omega | omega) only [Z63.l2, Z63.l2.b, if_pos, decide_eq_true_eq, qB, e2, qG, Ev.s1 Kr, Ev.s0 Kx, Ev.iteI]
  rw [qLU hl ys (x + 1) e3 (by omega), Ev.s0 Kx, Ev.s1 Kr]
  simp only [qR, decide_eq_true_eq]
  split
  ·rw [if_neg (by omega)]
  ·rfl
theorem qOp {l : List Bool} {v : Bool} (hl : l.length <= 1099511627776) (R : Nat -> Int -> Prop) :
  Ev (fun n => Z63.c n l v (R n)) ↔ Ev (fun n => R n (qR (fun y => v == y) l 0)) := by
 refine Ev.suc.trans ?_
 simp only [Z63.c, Z63.w]
 rw [qLU hl l 0 rfl (by omega), Ev.s1 R, Ev.s1 R]
 split
 ·rw [xE (by omega) ‹_›]
 ·rfl
theorem qOu {l : List Bool} {v : Bool} (hl : l.length <= 1099511627776) (R : Nat -> Bool -> Prop) :
  Ev (fun n => Z60.c n l v (R n)) ↔ Ev (fun n => R n (l.any fun y => v == y)) := by
 refine Ev.suc.trans ?_
 simp only [Z60.c, Z60.w]
 rw [qOp hl, Ev.s1 R, xF (by omega)]
theorem qKl (l : List Bool) : (!(l.any fun y => false == y)) = l.all id := by
 induction l with
 | nil => rfl
 | cons a l ih => rw [List.any_cons, List.all_cons, Bool.not_or, ih]; cases a <;> rfl
def zN (d : List qQ) (t : List qA) : List Int × Bool :=
 if 1 <= t.length /\ t.length <= 400 then (match jI d t [] (List.replicate t.length false) with
  | some r => (r.1, (r.2.take (t.length - 1)).all id)
  | none => ([], false)) else ([], false)
theorem qBr {d : List qQ} {t : List qA} (h : (zN d t).2 = true) : WOk (zN d t).1 /\ (zN d t).1.length = t.length /\ 1 <= t.length /\ t.length <= 400 := by
 unfold zN at h ⊢
 by_cases hl : 1 <= t.length /\ t.length <= 400
 ·rw [if_pos hl] at h ⊢
  cases hg : jI d t [] (List.replicate t.length false) with
  | none => rw [hg] at h; cases h
  | some r =>
   rw [hg] at h
   obtain ⟨h1, h2, h3⟩ := kJ (fun w hw => by cases hw) hg
   exact ⟨h1, by simpa using h2, hl⟩
 ·rw [if_neg hl] at h; cases h
theorem qIL {d : List qQ} {t : List qA} (hd : d.length <= 1099511627776) (R : Nat -> List Int -> Bool -> Prop) :
  Ev (fun n => Z21.c n d t (R n)) ↔ Ev (fun n => R n (zN d t).1 (zN d t).2) := by
 refine Ev.suc.trans ?_
 simp only [Z21.c, Z21.w, Ev.iteI, decide_eq_true_eq, decide_eq_false_iff_not, Ev.s2 R, zN]
 by_cases hl : 1 <= t.length /\ t.length <= 400
 ·rw [if_pos (by omega), if_neg (by omega), if_pos hl]
  have lp := fun (Kx : Nat -> Int -> List Int -> List Bool -> Prop) (Kr : Nat -> Bool -> List Int -> Prop) => qEP hd hl.2 t [] (List.replicate t.length 0) (List.replicate t.length false) rfl (by simp) (by simp) (fun w hw => by cases hw) Kx Kr
  simp only [List.length_nil, List.nil_append, Int.natCast_zero] at lp
  simp (disch := omega) only [Z21.j1, Z21.j0, qB, decide_true, Bool.and_true, and_self, Int.toNat_natCast]
  rw [lp]
  cases hg : jI d t [] (List.replicate t.length false) with
  | none => exact Ev.s2 R _ _
  | some r =>
   obtain ⟨h1, h2, h3⟩ := kJ (fun w hw => by cases hw) hg
   rw [List.length_replicate] at h3
   simp (disch := omega) only [qG, qHH]
   rw [qOu (by simp; omega), Ev.s2 R]
   rw [qKl, List.drop_zero, show ((t.length : Int) - 1).toNat = t.length - 1 from by omega]
 ·rw [if_neg hl]
  split
  ·rw [if_pos (by omega)]
  ·rfl
def yM (d : List qQ) (t : List qA) : Int := if (zN d t).2 = true then rd (zN d t).1 (t.length - 1) else -1
theorem qIN {d : List qQ} {t : List qA} (hd : d.length <= 1099511627776) (R : Nat -> Int -> Prop) :
  Ev (fun n => Z20.c n d t (R n)) ↔ Ev (fun n => R n (yM d t)) := by
 refine Ev.suc.trans ?_
 simp only [Z20.c, Z20.w, qIL hd, Ev.iteI, Bool.not_eq_true', Ev.s1 R, yM]
 by_cases h : (zN d t).2 = true
 ·obtain ⟨h1, h2, h3, h4⟩ := qBr h
  rw [if_pos h, if_neg (by simp [h])]
  simp (disch := omega) only [qG, qB, Ev.s1 R]
  rw [show (((zN d t).1.length : Int) - 1).toNat = t.length - 1 from by omega]
 ·rw [if_neg h, if_pos (by simpa using h)]
def vB (d : List qQ) (t : List qA) : Int := if vV d = true then yM d t else -1
theorem qDr {d : List qQ} {t : List qA} (hd : d.length <= 1099511627776) (R : Nat -> Int -> Prop) :
  Ev (fun n => Z6.c n d t (R n)) ↔ Ev (fun n => R n (vB d t)) := by
 refine Ev.suc.trans ?_
 simp only [Z6.c, Z6.w, qIu, Ev.iteI, Bool.not_eq_true', qIN hd, Ev.s1 R, vB]
 by_cases h : vV d = true
 ·rw [if_pos h, if_neg (by simp [h])]
 ·rw [if_neg h, if_pos (by simpa using h)]
theorem qGX {d : List qQ} {wide : List Int} {a b c e f : Int} {w ks : List Int} (hl : ks.length <= 1099511627776) (hw : WOk wide) : ∀ (ys : List Int) (s x : Int), ks.drop x.toNat = ys -> 0 <= x -> 0 <= s -> s <= 8192 -> jF wide.length ys = true ->
  ∀ (Kx : Nat -> List qQ -> Int -> Int -> Int -> Int -> Int -> Int -> List Int -> List Int -> Prop),
  (Ev (fun n => Z82.l3 n d wide a b c e f w ks s x (Kx n)) ↔ Ev (fun n => Kx n d (wA s (ys.map fun k => rd wide k.toNat)) a b c e f w ks))
 | [], s, x, h, h0, hs, hs', hk, Kx => by
  have := qO h h0
  refine Ev.suc.trans ?_
  simp (disch := omega) only [Z82.l3, Z82.l3.b, if_neg, decide_eq_true_eq, Ev.s9 Kx, List.map_nil, wA]
 | y :: ys, s, x, h, h0, hs, hs', hk, Kx => by
  obtain ⟨e1, e2, e3⟩ := qD h h0
  rw [jW] at hk
  have hy := hw _ (qJe hk.1.1 (show y < (wide.length : Int) by omega))
  refine Ev.suc.trans ?_
  simp (disch := omega) only [Z82.l3, Z82.l3.b, if_pos, decide_eq_true_eq, qB, e2, qG]
  rw [qGX hl hw ys _ (x + 1) e3 (by omega) (by split <;> omega) (by split <;> omega) hk.2, Ev.s9 Kx, List.map_cons, wA]
theorem qKM {d : List qQ} {wide : List Int} {a b c e f : Int} {w ks : List Int} (hd : d.length <= 1099511627776) (hl : ks.length <= 1099511627776) (hw : WOk wide) (hk : jF wide.length ks = true) (hkb : kY d (a, b, c, e, f, w, ks) = true) (R : Nat -> Int -> Prop) :
  Ev (fun n => Z82.c n d a b c e f w ks wide (R n)) ↔ Ev (fun n => R n (qBt d (a, b, c, e, f, w, ks) (wA 0 (ks.map fun k => rd wide k.toNat)))) := by
 refine Ev.suc.trans ?_
 simp only [Z82.c, Z82.w]
 rw [qGX hl hw ks 0 0 rfl (by omega) (by omega) (by omega) hk]
 have hs : 0 <= wA 0 (ks.map fun k => rd wide k.toNat) /\ wA 0 (ks.map fun k => rd wide k.toNat) <= 8192 := by
  have hwk := qCj hw hk
  have := qG4 hwk
  rw [qBf (by omega) (by omega) hwk]
  split <;> omega
 generalize wA 0 (ks.map fun k => rd wide k.toNat) = s at hs
 rw [kY, decide_eq_true_eq] at hkb
 simp only [] at hkb
 simp only [Z82.j2, Z82.j3, Ev.iteI, decide_eq_true_eq, decide_eq_false_iff_not, Bool.not_eq_true', xY, Ev.s1 R, if_true]
 rw [qBt]
 simp only []
 by_cases h1 : a = 1
 ·rw [if_pos h1, if_pos h1]
  simp (disch := omega) only [qB, Ev.s1 R]
 rw [if_neg h1, if_neg h1]
 by_cases h2 : a = 2
 ·rw [if_pos h2, if_pos h2]
 rw [if_neg h2, if_neg h2]
 by_cases h4 : a = 4
 ·rw [if_pos h4, if_pos h4]
  by_cases g1 : e < 0
  ·rw [if_neg (by omega), if_pos (Or.inl g1)]
  rw [if_pos g1]
  by_cases g2 : c < e
  ·rw [if_neg (by omega), if_pos (Or.inr (Or.inl g2))]
  rw [if_pos g2]
  by_cases g3 : c >= s
  ·rw [if_pos g3, if_pos (Or.inr (Or.inr g3))]
  rw [if_neg g3, if_neg (by omega), qG (x := c - e) (by omega) (by omega), qG (by omega) (by omega)]
 rw [if_neg h4, if_neg h4]
 have hm : 1 <= c /\ c <= 4096 -> IntKind.wrap .i64 (s * c) = s * c := fun h => by
  have := qQx hs.1 hs.2 (show 0 <= c by omega) h.2
  exact qG (by omega) (by omega)
 have hp : 0 <= c /\ c <= 4096 -> IntKind.wrap .i64 (s + c) = s + c := fun h => qG (by omega) (by omega)
 have key56 : (if ¬ (0 <= c /\ c <= 4096) then Ev fun n => R n (-1) else Ev fun n => R n (IntKind.wrap .i64 (s + c))) ↔ Ev fun n => R n (if 0 <= c /\ c <= 4096 then s + c else -1) := by
  by_cases g : 0 <= c /\ c <= 4096
  ·rw [if_neg (fun h => h g), if_pos g, hp g]
  ·rw [if_pos g, if_neg g]
 have key78 : (if ¬ (0 <= c /\ c <= 4096) then Ev fun n => R n (-1) else Ev fun n => R n s) ↔ Ev fun n => R n (if 0 <= c /\ c <= 4096 then s else -1) := by
  by_cases g : 0 <= c /\ c <= 4096
  ·rw [if_neg (fun h => h g), if_pos g]
  ·rw [if_pos g, if_neg g]
 have key9 : (if ¬ (1 <= c /\ c <= 4096) then Ev fun n => R n (-1) else Ev fun n => R n (IntKind.wrap .i64 (s * c))) ↔ Ev fun n => R n (if 1 <= c /\ c <= 4096 then s * c else -1) := by
  by_cases g : 1 <= c /\ c <= 4096
  ·rw [if_neg (fun h => h g), if_pos g, hm g]
  ·rw [if_pos g, if_neg g]
 by_cases h5 : a = 5
 ·rw [if_pos h5, if_pos (Or.inl h5)]; exact key56
 rw [if_neg h5]
 by_cases h6 : a = 6
 ·rw [if_pos h6, if_pos (Or.inr h6)]; exact key56
 rw [if_neg h6, if_neg (show ¬ (a = 5 \/ a = 6) by omega)]
 by_cases h7 : a = 7
 ·rw [if_pos h7, if_pos (Or.inl h7)]; exact key78
 rw [if_neg h7]
 by_cases h8 : a = 8
 ·rw [if_pos h8, if_pos (Or.inr h8)]; exact key78
 rw [if_neg h8, if_neg (show ¬ (a = 7 \/ a = 8) by omega)]
 by_cases h9 : a = 9
 ·rw [if_pos h9, if_pos h9]; exact key9
 rw [if_neg h9, if_neg h9]
theorem qGY {d : List qQ} {i : Int} {o wide : List Int} {t : List qA} {x : qA} (hi0 : 0 <= i) (hi : i < (t.length : Int)) (hx : rd t i.toNat = x) (hl : x.2.2.2.2.2.2.length <= 1099511627776) : ∀ (ys : List Int) (j : Int) (used : List Bool), x.2.2.2.2.2.2.drop j.toNat = ys -> 0 <= j -> used.length = t.length -> jF i ys = true ->
  ∀ (Kx : Nat -> List qQ -> Int -> List Int -> List Bool -> List Int -> List qA -> Prop),
  (Ev (fun n => Z83.l16 n d i o wide t j used (Kx n)) ↔ Ev (fun n => Kx n d i o (zS used ys) wide t))
 | [], j, used, h, h0, hu, hk, Kx => by
  have := qO h h0
  refine Ev.suc.trans ?_
  simp (disch := omega) only [Z83.l16, Z83.l16.b, qB, hx, if_neg, decide_eq_true_eq, Ev.s6 Kx, zS]
 | y :: ys, j, used, h, h0, hu, hk, Kx => by
  obtain ⟨e1, e2, e3⟩ := qD h h0
  rw [jW] at hk
  refine Ev.suc.trans ?_
  simp (disch := omega) only [Z83.l16, Z83.l16.b, qB, hx, if_pos, decide_eq_true_eq, e2, qG]
  rw [qGY hi0 hi hx hl ys (j + 1) _ e3 (by omega) (by simpa using hu) hk.2, Ev.s6 Kx, zS]
theorem qDq {d : List qQ} {t : List qA} (hd : d.length <= 1099511627776) (ht : t.length <= 400) (hg : ∀ x : qA, x ∈ t -> Wd x.2.2.2.2.2.1 /\ x.2.2.2.2.2.2.length <= 1099511627776) : ∀ (ys : List qA) (wide : List Int) (used : List Bool), t.drop wide.length = ys -> (∀ x : qA, x ∈ ys -> Wd x.2.2.2.2.2.1 /\ x.2.2.2.2.2.2.length <= 1099511627776) -> used.length = t.length -> WOk wide ->
  ∀ (Kx : Nat -> List Int -> List Int -> List Bool -> Prop) (Kr : Nat -> List Int -> Prop),
  (Ev (fun n => Z83.l7 n d wide.length wide [] used t (Kx n) (Kr n)) ↔ match jI d ys wide used with
   | some r => Ev (fun n => Kx n r.1 [] r.2)
   | none => Ev (fun n => Kr n []))
 | [], wide, used, h, hy, hu, hw, Kx, Kr => by
  have hle := List.drop_eq_nil_iff.1 h
  refine Ev.suc.trans ?_
  simp (disch := omega) only [Z83.l7, Z83.l7.b, if_neg, decide_eq_true_eq, Ev.s3 Kx, jI]
 | x :: ys, wide, used, h, hy, hu, hw, Kx, Kr => by
  have h' : t.drop (wide.length : Int).toNat = x :: ys := h
  obtain ⟨e1, e2, e3⟩ := qD h' (by omega)
  have e2' : rd t wide.length = x := e2
  have hx := hy x List.mem_cons_self
  refine Ev.suc.trans ?_
  simp (disch := first | exact hx.1 | exact hx.2 | omega) only [Z83.l7, Z83.l7.b, if_pos, decide_eq_true_eq, Ev.iteI, qB, Int.toNat_natCast, e2', Ev.s1 Kr, qMO, Bool.not_eq_true']
  rw [jI]
  by_cases hf : jF wide.length x.2.2.2.2.2.2 = true /\ vZ x = true /\ kY d x = true
  ·obtain ⟨f1, f2, f3⟩ := hf
   have e : (jF (wide.length : Int) x.2.2.2.2.2.2 && vZ (x.1, x.2.1, x.2.2.1, x.2.2.2.1, x.2.2.2.2.1, x.2.2.2.2.2.1, x.2.2.2.2.2.2) && kY d (x.1, x.2.1, x.2.2.1, x.2.2.2.1, x.2.2.2.2.1, x.2.2.2.2.2.1, x.2.2.2.2.2.2)) = true := by
    rw [f1, show vZ (x.1, x.2.1, x.2.2.1, x.2.2.2.1, x.2.2.2.2.1, x.2.2.2.2.2.1, x.2.2.2.2.2.2) = true from f2, show kY d (x.1, x.2.1, x.2.2.1, x.2.2.2.1, x.2.2.2.2.1, x.2.2.2.2.2.1, x.2.2.2.2.2.2) = true from f3]; rfl
   rw [e, if_neg (by decide)]
   have hwi := fun (R : Nat -> Int -> Prop) => qKM (wide := wide) hd hx.2 hw f1 f3 R
   simp (disch := omega) only [hwi, xY, Ev.iteI, Bool.not_eq_true', decide_eq_false_iff_not, Ev.s1 Kr, jT]
   have hst : kX d x wide = acc (qBt d x (wA 0 (x.2.2.2.2.2.2.map fun k => rd wide k.toNat))) := by
    rw [kX, if_pos ⟨f1, f2, f3⟩]
   rw [hst]
   generalize hv : qBt d x (wA 0 (x.2.2.2.2.2.2.map fun k => rd wide k.toNat)) = v
   by_cases hacc : 1 <= v /\ v <= 4096
   ·rw [if_neg (fun h => h hacc), acc, if_pos hacc]
    simp only []
    simp (disch := (simp only [List.length_cons, List.length_nil]; omega)) only [jT]
    rw [qGY (by omega) e1 e2 hx.2 _ 0 used rfl (by omega) hu f1]
    have el : IntKind.wrap .i64 ((wide.length : Int) + 1) = ((wide ++ [v]).length : Int) := by
     rw [qG (by omega) (by omega)]; simp
    rw [el, qDq hd ht hg ys (wide ++ [v]) _ (by rw [<- e3, List.length_append]; rfl) (fun x hx' => hy x (List.mem_cons_of_mem _ hx')) (by rw [vG]; exact hu) (hw.app hacc)]
    simp only [Int.toNat_zero, List.drop_zero]
    cases jI d ys (wide ++ [v]) (zS used x.2.2.2.2.2.2) with
    | none => exact Ev.s1 Kr _
    | some r => exact Ev.s3 Kx _ _ _
   ·rw [if_pos hacc, acc, if_neg hacc]
  ·have e : (jF (wide.length : Int) x.2.2.2.2.2.2 && vZ (x.1, x.2.1, x.2.2.1, x.2.2.2.1, x.2.2.2.2.1, x.2.2.2.2.2.1, x.2.2.2.2.2.2) && kY d (x.1, x.2.1, x.2.2.1, x.2.2.2.1, x.2.2.2.2.1, x.2.2.2.2.2.1, x.2.2.2.2.2.2)) = false := by
    rw [Bool.eq_false_iff]
    intro h
    rw [Bool.and_eq_true, Bool.and_eq_true] at h
    exact hf ⟨h.1.1, h.1.2, h.2⟩
   rw [if_pos e, kX, if_neg hf]
theorem qKm {wide : List Int} {used : List Bool} (hl : used.length <= 1048576) (h1 : 1 <= used.length) : ∀ (m : Nat) (i : Int), i + m = (used.length : Int) - 1 -> 0 <= i -> ∀ (Kx Kr : Nat -> List Int -> Prop),
  (Ev (fun n => Z83.l20 n wide [] used i (Kx n) (Kr n)) ↔ if ((used.take (used.length - 1)).drop i.toNat).all id = true then Ev (fun n => Kx n wide) else Ev (fun n => Kr n []))
 | 0, i, h, h0, Kx, Kr => by
  refine Ev.suc.trans ?_
  simp (disch := omega) only [Z83.l20, Z83.l20.b, qG, if_neg, decide_eq_true_eq, Ev.s1 Kx]
  rw [List.drop_eq_nil_of_le (by simp; omega)]
  simp
 | m + 1, i, h, h0, Kx, Kr => by
  refine Ev.suc.trans ?_
  have hk : i.toNat < (used.take (used.length - 1)).length := by simp; omega
  have e : (used.take (used.length - 1)).drop i.toNat = rd used i.toNat :: (used.take (used.length - 1)).drop (i + 1).toNat := by
   rw [List.drop_eq_getElem_cons hk, show (i + 1).toNat = i.toNat + 1 from by omega]
   congr 1
   rw [List.getElem_take, rd, List.getD_eq_getElem?_getD, List.getElem?_eq_getElem (by omega)]; rfl
  simp (disch := omega) only [Z83.l20, Z83.l20.b, qG, if_pos, decide_eq_true_eq, qB, Ev.iteI, Bool.not_eq_true', Ev.s1 Kr, e]
  rw [qKm hl h1 m (i + 1) (by omega) (by omega), Ev.s1 Kx, Ev.s1 Kr, List.all_cons, id]
  cases rd used i.toNat <;> simp
theorem qH5 {d : List qQ} {t : List qA} (hd : d.length <= 1099511627776) (hg : ∀ x : qA, x ∈ t -> Wd x.2.2.2.2.2.1 /\ x.2.2.2.2.2.2.length <= 1099511627776) (R : Nat -> List Int -> Prop) :
  Ev (fun n => Z83.c n d t (R n)) ↔ Ev (fun n => R n (if vV d = true /\ (zN d t).2 = true then (zN d t).1 else [])) := by
 refine Ev.suc.trans ?_
 simp only [Z83.c, Z83.w, qGx, Ev.iteI, decide_eq_true_eq, decide_eq_false_iff_not, Bool.not_eq_false', Ev.s1 R, zN]
 by_cases h : vV d = true
 ·rw [if_pos h]
  by_cases hl : 1 <= t.length /\ t.length <= 400
  ·rw [if_pos (by omega), if_neg (by omega)]
   simp only [if_pos hl]
   have lp := fun (Kx : Nat -> List Int -> List Int -> List Bool -> Prop) (Kr : Nat -> List Int -> Prop) => qDq hd hl.2 hg t [] (List.replicate t.length false) rfl hg (by simp) (fun w hw => by cases hw) Kx Kr
   simp only [List.length_nil] at lp
   simp only [Int.natCast_zero] at lp
   simp (disch := omega) only [Z83.j0, qB, decide_true, Bool.and_true, Int.toNat_natCast]
   rw [lp]
   cases hg' : jI d t [] (List.replicate t.length false) with
   | none => simp only [h, Bool.false_eq_true, and_false, if_false]; exact Ev.s1 R _
   | some r =>
    obtain ⟨h1, h2, h3⟩ := kJ (fun w hw => by cases hw) hg'
    rw [List.length_replicate] at h3
    simp only [h, true_and]
    rw [qKm (by omega) (by omega) (t.length - 1) 0 (by omega) (by omega), Ev.s1 R, Ev.s1 R, h3]
    simp only [Int.toNat_zero, List.drop_zero]
    split <;> rfl
  ·simp only [if_neg hl, Bool.false_eq_true, and_false, if_false]
   split
   ·rw [if_pos (by omega)]
   ·rfl
 ·rw [if_neg h]
  simp only [h, false_and, if_false]
  rw [if_neg (by simp)]
theorem qCt {d : List qQ} {t : List qA} (hd : d.length <= 1099511627776) (hg : ∀ x : qA, x ∈ t -> Wd x.2.2.2.2.2.1 /\ x.2.2.2.2.2.2.length <= 1099511627776) (R : Nat -> Int -> Prop) :
  Ev (fun n => Z69.c n d t (R n)) ↔ Ev (fun n => R n (vB d t)) := by
 refine Ev.suc.trans ?_
 simp only [Z69.c, Z69.w, qH5 hd hg, Ev.iteI, decide_eq_true_eq, Ev.s1 R, vB, yM]
 by_cases h : vV d = true
 ·by_cases h2 : (zN d t).2 = true
  ·obtain ⟨h3, h4, h5, h6⟩ := qBr h2
   simp only [h, h2, and_self, if_true]
   rw [if_neg (by omega)]
   simp (disch := omega) only [qG, qB, Ev.s1 R]
   rw [show (((zN d t).1.length : Int) - 1).toNat = t.length - 1 from by omega]
  ·simp only [h, h2, and_false, if_false, List.length_nil, if_true]
   simp
 ·simp only [h, false_and, if_false, List.length_nil]
  simp
def jH : Nat -> List qA -> Prop
 | _, [] => True
 | i, x :: r => jF i x.2.2.2.2.2.2 = true /\ jH (i + 1) r
theorem qAQ {d : List qQ} : ∀ {ys : List qA} {wide : List Int} {used : List Bool} {r : List Int × List Bool}, jI d ys wide used = some r -> jH wide.length ys
 | [], wide, used, r, h => trivial
 | x :: ys, wide, used, r, h => by
  rw [jI] at h
  cases hs : kX d x wide with
  | none => rw [hs] at h; cases h
  | some w =>
   rw [hs] at h
   have ih := qAQ h
   rw [List.length_append] at ih
   refine ⟨?_, ih⟩
   unfold kX at hs
   split at hs
   ·rename_i hh; exact hh.1
   ·cases hs
theorem vK {d : List qQ} {t : List qA} (h : ¬ yM d t < 0) : (zN d t).2 = true /\ 1 <= t.length /\ t.length <= 400 /\ jH 0 t := by
 unfold yM at h
 by_cases h2 : (zN d t).2 = true
 ·obtain ⟨h3, h4, h5, h6⟩ := qBr h2
  refine ⟨h2, h5, h6, ?_⟩
  unfold zN at h2
  rw [if_pos ⟨h5, h6⟩] at h2
  cases hg : jI d t [] (List.replicate t.length false) with
  | none => rw [hg] at h2; cases h2
  | some r => exact qAQ hg
 ·rw [if_neg h2] at h; omega
theorem kH {d : List qQ} {t : List qA} (h : ¬ vB d t < 0) : vV d = true /\ ¬ yM d t < 0 := by
 unfold vB at h
 split at h
 ·exact ⟨‹_›, h⟩
 ·omega
def LOk (l : List Int) : Prop := ∀ w ∈ l, 0 <= w /\ w <= 1000000
theorem LOk.app {acc : List Int} {w : Int} (h : LOk acc) (hw : 0 <= w /\ w <= 1000000) : LOk (acc ++ [w]) := by
 intro v hv
 rcases List.mem_append.1 hv with hv | hv
 ·exact h v hv
 ·rw [List.mem_singleton] at hv; subst hv; exact hw
theorem qDx {α : Type} [Inhabited α] {a z : List α} {v : α} : rd (a ++ v :: z) a.length = v := by
 rw [rd, List.getD_eq_getElem?_getD, List.getElem?_append_right (Nat.le_refl _), Nat.sub_self]; rfl
theorem qFS {w : Int} {ws : List Nat} (hw : Below 18446744073709551616 ws) : zM w (W ws) = true ↔ Ok w ws := by
 rw [qHQ hw]
 exact ⟨fun ⟨a, b, c, d⟩ => ⟨a, b, c, hw, d⟩, fun h => ⟨h.lo, h.hi, h.len, h.top⟩⟩
theorem yV {w : Int} {l : List Int} (hw : Wd l) (h : zM w l = true) : ∃ ws, l = W ws /\ Ok w ws := by
 obtain ⟨ws, rfl, hB⟩ := hw.of
 exact ⟨ws, rfl, (qFS hB).1 h⟩
theorem Ok.bits {w : Int} {ws : List Nat} (h : Ok w ws) : zM w (W ws) = true := (qFS h.words).2 h
theorem qNw {x k : Nat} (hx : x < 18446744073709551616) : x >>> k < 18446744073709551616 := by
 rw [Nat.shiftRight_eq_div_pow]; exact Nat.lt_of_le_of_lt (Nat.div_le_self _ _) hx
def qQz : List UInt8 := [48, 49, 50, 51, 52, 53, 54, 55, 56, 57, 97, 98, 99, 100, 101, 102]
def qNN (v : Nat) : Int := ((List.getD qQz v 0).toNat : Int)
def dig (ws : List Nat) (e at_ : Nat) : Nat := (ws.getD (at_ / 64) 0 >>> (at_ % 64)) % 2 ^ e
def dgs (ws : List Nat) (e : Nat) : Nat -> List Int
 | 0 => []
 | k + 1 => qNN (dig ws e (e * k)) :: dgs ws e k
theorem qC0 {ws : List Nat} {e : Nat} : ∀ k, (dgs ws e k).length = k
 | 0 => rfl
 | k + 1 => by rw [dgs, List.length_cons, qC0 k]
def qNp (w : Nat) (ws : List Nat) : List Int := if w % 4 = 0 then [35, 120] ++ dgs ws 4 (w / 4) else [35, 98] ++ dgs ws 1 w
def wN (l : List Int) : List Nat := l.map Int.toNat
theorem qQu (ws : List Nat) : wN (W ws) = ws := by
 unfold wN W
 rw [List.map_map]
 exact List.map_id' _
def wtx (b : Int) (l : List Int) : List UInt8 := if zM b l = true then qX (qNp b.toNat (wN l)) else []
theorem qAa (l : List Int) : (qX l).length = l.length := by simp [qX]
theorem qMk (b : Int) (l : List Int) : (wtx b l).length <= 4098 := by
 rw [wtx]
 split
 ·rename_i h
  rw [zM] at h
  have hb : b <= 4096 := by
   simp only [Bool.and_eq_true, decide_eq_true_eq] at h
   omega
  rw [qAa, qNp]
  split
  ·rw [List.length_append, qC0]; simp; omega
  ·rw [List.length_append, qC0]; simp; omega
 ·simp
theorem qCs {ws : List Nat} (hw : Below 18446744073709551616 ws) (hl : ws.length <= 64) {e : Nat} (he : e = 1 \/ e = 4) {x25 : Int} : ∀ (k : Nat) (o : List Int), e * k <= 64 * ws.length -> o.length + k <= 8192 -> ∀ Kx : Nat -> List Int -> Prop,
  (Ev (fun n => Z7.l8 n e x25 (W ws) ((e * k : Nat) - (e : Int)) o (Kx n)) ↔ Ev (fun n => Kx n (o ++ dgs ws e k)))
 | 0, o, h1, h2, Kx => by
  refine Ev.suc.trans ?_
  simp only [Z7.l8, Z7.l8.b]
  rw [Ev.iteI, if_neg (by simp; omega), dgs, List.append_nil, Ev.s1 Kx]
 | k + 1, o, h1, h2, Kx => by
  have ek : ((e * (k + 1) : Nat) : Int) - (e : Int) = ((e * k : Nat) : Int) := by rw [Nat.mul_add, Nat.mul_one]; omega
  rw [Nat.mul_add, Nat.mul_one] at h1
  have hk : e * k <= 4096 := by omega
  have e1 : IntKind.wrap .i64 (Int.tdiv ((e * k : Nat) : Int) 64) = ((e * k / 64 : Nat) : Int) := by rw [qIS (by omega), qG (by omega) (by omega)]; omega
  have e2 : Int.tmod ((e * k : Nat) : Int) 64 = ((e * k % 64 : Nat) : Int) := by rw [qIQ (by omega)]; omega
  have hx : ws.getD (e * k / 64) 0 < 18446744073709551616 := hw.getD (by decide) _
  have es := qNx (ws.getD (e * k / 64) 0) (e * k % 64) (by omega)
  have hx2 : ws.getD (e * k / 64) 0 >>> (e * k % 64) < 18446744073709551616 := qNw hx
  have e3 : IntKind.wrap .u64 ((IntKind.wrap .u64 (1 * 2 ^ (Nat.min (Int.toNat (e : Int)) 64))) - 1) = ((2 ^ e - 1 : Nat) : Int) := by
   rcases he with rfl | rfl <;> decide
  have ea : qGr .and .u64 ((ws.getD (e * k / 64) 0 >>> (e * k % 64) : Nat) : Int) ((2 ^ e - 1 : Nat) : Int) = ((dig ws e (e * k) : Nat) : Int) := by
   rw [qN1 hx2 (by rcases he with rfl | rfl <;> decide), dig]
   congr 1
   exact Nat.and_two_pow_sub_one_eq_mod _ _
  have hd : dig ws e (e * k) < 16 := by
   have : dig ws e (e * k) < 2 ^ e := Nat.mod_lt _ (Nat.pow_pos (by decide))
   rcases he with rfl | rfl <;> omega
  have e5 : IntKind.wrap .i64 (((e * k : Nat) : Int) - (e : Int)) = ((e * k : Nat) : Int) - (e : Int) := qG (by omega) (by omega)
  have ih := qCs hw hl he (x25 := x25) k (o ++ [qNN (dig ws e (e * k))]) (by omega) (by simp; omega) (fun n => Kx (n + 1))
  refine Ev.suc.trans ?_
  rw [ek]
  simp only [Z7.l8, Z7.l8.b, e1, e2, Int.toNat_natCast, qQn, qIC, es, e5]
  rw [Ev.iteI, if_pos (decide_eq_true (Int.natCast_nonneg _))]
  simp (disch := omega) only [qB, jT]
  rw [show IntKind.wrap .u64 (1 * 2 ^ (Nat.min e 64)) - 1 = IntKind.wrap .u64 (1 * 2 ^ (Nat.min (Int.toNat (e : Int)) 64)) - 1 from by rw [Int.toNat_natCast], e3, ea]
  simp only [Int.toNat_natCast]
  have g1 : (0 : Int) <= (dig ws e (e * k) : Int) /\ (dig ws e (e * k) : Int) < ((([48, 49, 50, 51, 52, 53, 54, 55, 56, 57, 97, 98, 99, 100, 101, 102] : List UInt8).length : Nat) : Int) := ⟨by omega, by simp; omega⟩
  simp only [qB g1]
  have g2 : o.length + ([((List.getD ([48, 49, 50, 51, 52, 53, 54, 55, 56, 57, 97, 98, 99, 100, 101, 102] : List UInt8) (dig ws e (e * k)) 0).toNat : Int)] : List Int).length <= 35184372088832 := by simp; omega
  simp only [jT g2]
  refine ih.trans ?_
  rw [Ev.s1 Kx, dgs, List.append_assoc]; rfl
theorem qIH {b : Int} {l : List Int} (hl : Wd l) (R : Nat -> List UInt8 -> Prop) : Ev (fun n => Z7.c n b l (R n)) ↔ Ev (fun n => R n (wtx b l)) := by
 refine Ev.suc.trans ?_
 simp only [Z7.c, Z7.w, qFv, Ev.iteI]
 by_cases h : zM b l = true
 ·obtain ⟨ws, rfl, ho⟩ := yV hl h
  have h1 := ho.lo
  have h2 := ho.hi
  have h3 := ho.len
  obtain ⟨w, rfl⟩ : ∃ w : Nat, b = (w : Int) := ⟨b.toNat, by omega⟩
  rw [if_neg (by rw [h]; decide), wtx, if_pos h, qQu, Int.toNat_natCast, qNp, qIQ (by omega)]
  by_cases hm : w % 4 = 0
  ·have lp := qCs ho.words (by omega) (.inr rfl) (x25 := (w : Int)) (w / 4) [35, 120] (by omega) (by simp; omega) (fun n y => R (n + 1) (qX y))
   rw [if_pos (by simp; omega), if_pos hm]
   rw [show IntKind.wrap .i64 ((w : Int) - 4) = ((4 * (w / 4) : Nat) : Int) - ((4 : Nat) : Int) from by rw [qG (by omega) (by omega)]; omega]
   exact lp.trans (Ev.s1 R _)
  ·have lp := qCs ho.words (by omega) (.inl rfl) (x25 := (w : Int)) w [35, 98] (by omega) (by simp; omega) (fun n y => R (n + 1) (qX y))
   rw [if_neg (by simp; omega), if_neg hm]
   rw [show IntKind.wrap .i64 ((w : Int) - 1) = ((1 * w : Nat) : Int) - ((1 : Nat) : Int) from by rw [qG (by omega) (by omega)]; omega]
   exact lp.trans (Ev.s1 R _)
 ·rw [if_pos (by simpa using h), wtx, if_neg h, Ev.s1 R]
theorem qCl (a : Nat) : Go.Lib.itoa (a : Int) = Go.Lib.decDigits a := by
 rw [Go.Lib.itoa, if_neg (by omega), Int.toNat_natCast]
theorem qJ6 : ∀ (f a : Nat), a <= f -> (Go.Lib.decDigits a).length <= a + 1
 | 0, a, h => by
  rw [Go.Lib.decDigits, dif_pos (by omega)]; simp
 | f + 1, a, h => by
  rw [Go.Lib.decDigits]
  by_cases h10 : a < 10
  ·rw [dif_pos h10]; simp
  ·rw [dif_neg h10, List.length_append]
   have := qJ6 f (a / 10) (by omega)
   simp; omega
theorem qA9 {a : Int} (h0 : 0 <= a) (h1 : a <= 1000000) : (Go.Lib.itoa a).length <= 1000001 := by
 obtain ⟨k, rfl⟩ : ∃ k : Nat, a = (k : Int) := ⟨a.toNat, by omega⟩
 rw [qCl]
 have := qJ6 k k (Nat.le_refl _)
 omega
theorem qLL {a : Int} (h0 : 0 <= a) (h1 : a <= 1000000) (R : Nat -> List UInt8 -> Prop) : Ev (fun n => Z84.c n a 10 (R n)) ↔ Ev (fun n => R n (Go.Lib.itoa a)) := by
 refine Ev.suc.trans ?_
 simp only [Z84.c, Z84.w]
 rw [show (decide (-9223372036854775808 <= a) && decide (a <= 9223372036854775807)) = true from by simp; omega]
 exact Ev.s1 R _
def qPY (n : Nat) : Int := if 48 <= n /\ n <= 57 then (n : Int) - 48 else if 97 <= n /\ n <= 102 then (n : Int) - 87 else -1
def qLy (e : Nat) (c : UInt8) : Bool := decide (0 <= qPY c.toNat /\ qPY c.toNat < ((2 ^ e : Nat) : Int))
def dv (t : List UInt8) (i : Nat) : Nat := (qPY (List.getD t (t.length - 1 - i) 0).toNat).toNat
def qQb (t : List UInt8) (e b : Nat) : Bool := (dv t (b / e)).testBit (b % e)
def rdW (e : Nat) (t : List UInt8) : List Nat := pk (e * t.length) (qQb t e)
def eOf (s : List UInt8) : Nat := if ((List.getD s 1 0).toNat : Int) = 120 then 4 else 1
def qQa (s : List UInt8) : Bool := decide (3 <= s.length /\ ((List.getD s 0 0).toNat : Int) = 35 /\ (((List.getD s 1 0).toNat : Int) = 98 \/ ((List.getD s 1 0).toNat : Int) = 120))
def okT (s : List UInt8) : Bool := qQa s && decide (eOf s * (s.length - 2) <= 4096) && (s.drop 2).all (qLy (eOf s))
def qLd (v : Nat) : UInt8 := List.getD qQz v 0
theorem qJO : ∀ v : Nat, v < 16 -> qPY (qLd v).toNat = (v : Int) /\ (qLd v).toNat < 128 := by decide
theorem qLK (v : Nat) : UInt8.ofNat (qNN v).toNat = qLd v := by
 show UInt8.ofNat (((qLd v).toNat : Int)).toNat = qLd v
 rw [Int.toNat_natCast, UInt8.ofNat_toNat]
theorem qLQ {ws : List Nat} {e p : Nat} : dig ws e p < 2 ^ e := Nat.mod_lt _ (Nat.pow_pos (by decide))
theorem qJ4 {ws : List Nat} {e : Nat} : ∀ (k j : Nat), j < k -> List.getD (qX (dgs ws e k)) (k - 1 - j) 0 = qLd (dig ws e (e * j))
 | 0, j, h => by omega
 | k + 1, j, h => by
  rw [dgs]
  show List.getD (UInt8.ofNat (qNN (dig ws e (e * k))).toNat :: qX (dgs ws e k)) _ 0 = _
  by_cases hj : j = k
  ·subst hj
   rw [show j + 1 - 1 - j = 0 from by omega, List.getD_cons_zero, qLK]
  ·rw [show k + 1 - 1 - j = (k - 1 - j) + 1 from by omega, List.getD_cons_succ]
   exact qJ4 k j (by omega)
theorem qEs {ws : List Nat} {e : Nat} {c : UInt8} : ∀ k, c ∈ qX (dgs ws e k) -> ∃ v, v < 2 ^ e /\ c = qLd v
 | 0, h => by cases h
 | k + 1, h => by
  rw [dgs] at h
  rcases List.mem_cons.1 (show c ∈ UInt8.ofNat (qNN (dig ws e (e * k))).toNat :: qX (dgs ws e k) from h) with h | h
  ·exact ⟨_, qLQ, by rw [h, qLK]⟩
  ·exact qEs k h
theorem qMV {ws : List Nat} {e : Nat} (he : e = 1 \/ e = 4) {k b : Nat} (hb : b < e * k) : qQb (qX (dgs ws e k)) e b = bit ws b := by
 have hj : b / e < k := by rcases he with rfl | rfl <;> omega
 have hl : (qX (dgs ws e k)).length = k := by rw [qAa, qC0]
 have h16 : dig ws e (e * (b / e)) < 16 := by
  have := qLQ (ws := ws) (e := e) (p := e * (b / e))
  rcases he with rfl | rfl <;> omega
 unfold qQb dv
 rw [hl, qJ4 k _ hj, (qJO _ h16).1, Int.toNat_natCast, dig, Nat.testBit_mod_two_pow, Nat.testBit_shiftRight, bit]
 have h1 : b % e < e := by rcases he with rfl | rfl <;> omega
 have h2 : e * (b / e) / 64 = b / 64 := by rcases he with rfl | rfl <;> omega
 have h3 : e * (b / e) % 64 + b % e = b % 64 := by rcases he with rfl | rfl <;> omega
 rw [decide_eq_true h1, Bool.true_and, h2, h3]
theorem qNo {ws : List Nat} {e k : Nat} {a : UInt8} (ha : a.toNat < 128) (he : e = 1 \/ e = 4) (hk : 1 <= k) (h4 : e * k <= 4096) (hae : a.toNat = if e = 4 then 120 else 98) (ho : Ok ((e * k : Nat) : Int) ws) {s : List UInt8} (es : s = 35 :: a :: qX (dgs ws e k)) :
  (∀ c ∈ s, c.toNat < 128) /\ okT s = true /\ eOf s * (s.length - 2) = e * k /\ W (rdW (eOf s) (s.drop 2)) = W ws := by
 have hl : (qX (dgs ws e k)).length = k := by rw [qAa, qC0]
 have hle : 2 ^ e <= 16 := by rcases he with rfl | rfl <;> decide
 have hn : s.length = k + 2 := by rw [es, List.length_cons, List.length_cons, hl]
 have hd : s.drop 2 = qX (dgs ws e k) := by rw [es]; rfl
 have h0 : List.getD s 0 0 = 35 := by rw [es]; rfl
 have h1 : List.getD s 1 0 = a := by rw [es]; rfl
 have ee : eOf s = e := by
  unfold eOf
  rw [h1, hae]
  rcases he with rfl | rfl <;> rfl
 have hee : ((a.toNat : Nat) : Int) = 98 \/ ((a.toNat : Nat) : Int) = 120 := by
  rw [hae]; rcases he with rfl | rfl <;> simp
 refine ⟨fun c hc => ?_, ?_, ?_, ?_⟩
 ·rw [es] at hc
  rcases List.mem_cons.1 hc with rfl | hc
  ·decide
  ·rcases List.mem_cons.1 hc with rfl | hc
   ·exact ha
   ·obtain ⟨v, hv, rfl⟩ := qEs k hc
    exact (qJO v (by omega)).2
 ·unfold okT qQa
  rw [ee, hd, h0, h1, hn, Bool.and_eq_true, Bool.and_eq_true, decide_eq_true_eq, decide_eq_true_eq, List.all_eq_true]
  refine ⟨⟨⟨by omega, by decide, hee⟩, by rw [Nat.add_sub_cancel]; exact h4⟩, fun c hc => ?_⟩
  obtain ⟨v, hv, rfl⟩ := qEs k hc
  have := (qJO v (by omega)).1
  unfold qLy
  rw [this]
  exact decide_eq_true ⟨by omega, by omega⟩
 ·rw [ee, hn, Nat.add_sub_cancel]
 ·rw [ee, hd, rdW, hl]
  congr 1
  exact (qP8 ho fun b hb => (qMV he hb).symm).symm
theorem qIF {w : Nat} {ws : List Nat} (ho : Ok (w : Int) ws) {s : List UInt8} (es : s = wtx w (W ws)) :
  (∀ c ∈ s, c.toNat < 128) /\ okT s = true /\ eOf s * (s.length - 2) = w /\ W (rdW (eOf s) (s.drop 2)) = W ws := by
 have h1 := ho.lo
 have h2 := ho.hi
 rw [wtx, if_pos ho.bits, Int.toNat_natCast, qQu, qNp] at es
 by_cases h4 : w % 4 = 0
 ·rw [if_pos h4] at es
  have ew : 4 * (w / 4) = w := by omega
  have := qNo (a := 120) (by decide) (.inr rfl) (k := w / 4) (by omega) (by omega) rfl (by rw [ew]; exact ho) es
  rw [ew] at this; exact this
 ·rw [if_neg h4] at es
  have ew : 1 * w = w := by omega
  have := qNo (a := 98) (by decide) (.inl rfl) (k := w) (by omega) (by omega) rfl (by rw [ew]; exact ho) es
  rw [ew] at this; exact this
def qQq (d : List qQ) (x : qA) (m : Int) : Prop :=
 (jF m x.2.2.2.2.2.2 = true /\ x.2.2.2.2.2.2.length <= 4096) /\ ((x.1 = 1 /\ x.2.2.2.2.2.2.length = 0 /\ 0 <= x.2.1 /\ x.2.1 <= (d.length : Int) - 1) \/ (x.1 = 2 /\ x.2.2.2.2.2.2.length = 0) \/
  ((3 <= x.1 /\ x.1 <= 9) /\ (x.1 ≠ 3 -> 0 <= x.2.2.1 /\ x.2.2.1 <= 8192) /\ (x.1 = 4 -> 0 <= x.2.2.2.1 /\ x.2.2.2.1 <= 8192)))
theorem qKd {l : List Int} (h : WOk l) : wA 0 l <= 8192 := by
 rw [qBf (by omega) (by omega) h]
 split <;> omega
theorem qIZ {d : List qQ} {x : qA} {wide : List Int} {w : Int} (hw : WOk wide) (h : kX d x wide = some w) : qQq d x wide.length := by
 have h' := h
 unfold kX at h
 split at h
 ·rename_i hc
  have hk := qCj hw hc.1
  have e := qIY (d := d) (x := x) hk (by simp)
  have hcap := qKd hk
  rw [if_pos hc.2.2, h] at e
  obtain ⟨a1, a2, a3⟩ := qHW h
  rw [<- a1] at a2 a3
  split at e
  ·rename_i hl
   have hkb := hc.2.2
   rw [kY, decide_eq_true_eq] at hkb
   refine ⟨⟨hc.1, hl⟩, ?_⟩
   rcases hkb with ⟨h1, h2, h3, h4⟩ | ⟨h1, h2, h3⟩ | ⟨h1, h2⟩ | ⟨h1, h2, h3⟩
   ·exact .inl ⟨h1, h2, h3, h4⟩
   ·exact .inr (.inl ⟨h1, h2⟩)
   ·exact .inr (.inr ⟨by omega, fun hn => absurd h1 hn, fun h4 => by omega⟩)
   ·refine .inr (.inr ⟨by omega, ?_⟩)
    unfold qBt at a1
    rw [if_neg (by omega), if_neg (by omega)] at a1
    by_cases c4 : x.1 = 4
    ·rw [if_pos c4] at a1
     split at a1
     ·omega
     ·rename_i hn
      simp only [not_or] at hn
      exact ⟨fun _ => by omega, fun _ => by omega⟩
    ·rw [if_neg c4] at a1
     refine ⟨fun _ => ?_, fun h => absurd h c4⟩
     by_cases c5 : x.1 = 5 \/ x.1 = 6
     ·rw [if_pos c5] at a1
      split at a1 <;> omega
     ·rw [if_neg c5] at a1
      by_cases c7 : x.1 = 7 \/ x.1 = 8
      ·rw [if_pos c7] at a1
       split at a1 <;> omega
      ·rw [if_neg c7, if_pos (by omega)] at a1
       split at a1 <;> omega
  ·cases e
 ·cases h
def qAF : List Int -> List UInt8
 | [] => []
 | k :: r => 44 :: (Go.Lib.itoa k ++ qAF r)
def qQy (x : qA) : List UInt8 :=
 (((((((Go.Lib.itoa x.1 ++ [47]) ++ Go.Lib.itoa x.2.1) ++ [47]) ++ Go.Lib.itoa x.2.2.1) ++ [47]) ++ Go.Lib.itoa x.2.2.2.1) ++ [47]) ++ wtx x.2.2.2.2.1 x.2.2.2.2.2.1
def qLI (x : qA) : List UInt8 := qQy x ++ qAF x.2.2.2.2.2.2
def Sm (a : Int) : Prop := 0 <= a /\ a <= 1000000
structure kZ (x : qA) : Prop where
 op : Sm x.1
 v : Sm x.2.1
 a : Sm x.2.2.1
 b : Sm x.2.2.2.1
 w : Wd x.2.2.2.2.2.1
 k : ∀ k ∈ x.2.2.2.2.2.2, Sm k
 kl : x.2.2.2.2.2.2.length <= 4096
 ok : zM x.2.2.2.2.1 x.2.2.2.2.2.1 = true \/ (x.2.2.2.2.1 = 0 /\ x.2.2.2.2.2.1 = [])
theorem qHv {ks : List Int} (hl : ks.length <= 4096) : ∀ (ys : List Int) (x : Int) (b : List UInt8), ks.drop x.toNat = ys -> 0 <= x -> (∀ k ∈ ys, Sm k) -> b.length + ys.length * 1000002 <= 900000000000000 -> ∀ Kx : Nat -> List UInt8 -> Prop,
  (Ev (fun n => Z3.l3 n ks ks.length b x (Kx n)) ↔ Ev (fun n => Kx n (b ++ qAF ys)))
 | [], x, b, h, h0, hy, hb, Kx => by
  have := qO h h0
  refine Ev.suc.trans ?_
  simp only [Z3.l3, Z3.l3.b]
  rw [Ev.iteI, if_neg (by simp; omega), Ev.s1 Kx, qAF, List.append_nil]
 | y :: ys, x, b, h, h0, hy, hb, Kx => by
  obtain ⟨e1, e2, e3⟩ := qD h h0
  obtain ⟨y0, y1⟩ := hy y List.mem_cons_self
  have hil := qA9 y0 y1
  have ih := qHv hl ys (x + 1) (b ++ ([44] ++ Go.Lib.itoa y)) e3 (by omega) (fun k hk => hy k (List.mem_cons_of_mem _ hk)) (by simp only [List.length_append, List.length_cons, List.length_nil] at hb ⊢; omega) (fun n => Kx (n + 1))
  refine Ev.suc.trans ?_
  simp only [Z3.l3, Z3.l3.b, e2]
  have g1 : (([44] : List UInt8).length + (Go.Lib.itoa y).length) <= 9223372036854775807 := by simp only [List.length_cons, List.length_nil]; omega
  have g2 : b.length + (([44] : List UInt8) ++ Go.Lib.itoa y).length <= 9223372036854775807 := by simp only [List.length_append, List.length_cons, List.length_nil] at hb ⊢; omega
  rw [Ev.iteI, if_pos (by simpa using e1), qG (x := x + 1) (by omega) (by omega)]
  simp only [qB (And.intro h0 e1)]
  rw [qLL y0 y1 (fun n c => grd (decide (([44] : List UInt8).length + c.length <= 9223372036854775807)) (grd (decide (b.length + (([44] : List UInt8) ++ c).length <= 9223372036854775807)) (Z3.l3 n ks ks.length (b ++ (([44] : List UInt8) ++ c)) (x + 1) (Kx (n + 1)))))]
  simp only [jT g1, jT g2]
  rw [ih, Ev.s1 Kx]
  simp only [qAF, List.append_assoc, List.cons_append, List.nil_append]
theorem qNJ {x : qA} (h : kZ x) (R : Nat -> List UInt8 -> Prop) : Ev (fun n => Z3.c n x (R n)) ↔ Ev (fun n => R n (qLI x)) := by
 obtain ⟨⟨o0, o1⟩, ⟨v0, v1⟩, ⟨a0, a1⟩, ⟨b0, b1⟩, hw, hk, hkl, hok⟩ := h
 have i1 := qA9 o0 o1
 have i2 := qA9 v0 v1
 have i3 := qA9 a0 a1
 have i4 := qA9 b0 b1
 have i5 := qMk x.2.2.2.2.1 x.2.2.2.2.2.1
 have q : ∀ (b : List UInt8) (Kx : Nat -> List UInt8 -> Prop), b.length <= 100000000 -> (Ev (fun n => Z3.l3 n x.2.2.2.2.2.2 x.2.2.2.2.2.2.length b 0 (Kx n)) ↔ Ev (fun n => Kx n (b ++ qAF x.2.2.2.2.2.2))) := fun b Kx hb =>
  qHv hkl x.2.2.2.2.2.2 0 b rfl (by omega) hk (by omega) Kx
 refine Ev.suc.trans ?_
 simp only [Z3.c, Z3.w]
 simp (disch := first | assumption | omega | (simp only [List.length_append, List.length_cons, List.length_nil]; omega)) only [qLL, jT, qIH, q]
 rw [Ev.s1 R]
 rfl
theorem qDB {a b : Nat} (ha : a < 256) (hb : b < 256) (h : UInt8.ofNat a = UInt8.ofNat b) : a = b := by
 have := congrArg UInt8.toNat h
 simpa [UInt8.toNat_ofNat', Nat.mod_eq_of_lt ha, Nat.mod_eq_of_lt hb] using this
theorem qLR (a : Nat) : Go.Lib.decDigits a ≠ [] := by
 rw [Go.Lib.decDigits]
 split <;> simp
theorem qMW : ∀ (a b : Nat), Go.Lib.decDigits a = Go.Lib.decDigits b -> a = b := by
 intro a
 induction a using Nat.strongRecOn with
 | _ a ih =>
  intro b h
  rw [Go.Lib.decDigits.eq_def a, Go.Lib.decDigits.eq_def b] at h
  split at h
  ·split at h
   ·simp only [List.cons.injEq, and_true] at h
    have := qDB (by omega) (by omega) h
    omega
   ·have := congrArg List.length h
    have h2 := qLR (b / 10)
    have h3 : 0 < (Go.Lib.decDigits (b / 10)).length := List.length_pos_iff.2 h2
    simp only [List.length_append, List.length_cons, List.length_nil] at this; omega
  ·split at h
   ·have := congrArg List.length h
    have h2 := qLR (a / 10)
    have h3 : 0 < (Go.Lib.decDigits (a / 10)).length := List.length_pos_iff.2 h2
    simp only [List.length_append, List.length_cons, List.length_nil] at this; omega
   ·obtain ⟨h1, h2⟩ := List.append_inj' h rfl
    simp only [List.cons.injEq, and_true] at h2
    have e1 := ih (a / 10) (by omega) (b / 10) h1
    have e2 := qDB (by omega) (by omega) h2
    omega
theorem qJ7 : ∀ (a : Nat), ∀ c ∈ Go.Lib.decDigits a, 48 <= c.toNat /\ c.toNat <= 57 := by
 intro a
 induction a using Nat.strongRecOn with
 | _ a ih =>
  intro c hc
  rw [Go.Lib.decDigits] at hc
  split at hc
  ·simp only [List.mem_singleton] at hc
   subst hc
   rw [UInt8.toNat_ofNat', Nat.mod_eq_of_lt (by omega)]; omega
  ·rcases List.mem_append.1 hc with hc | hc
   ·exact ih (a / 10) (by omega) c hc
   ·simp only [List.mem_singleton] at hc
    subst hc
    rw [UInt8.toNat_ofNat', Nat.mod_eq_of_lt (by omega)]; omega
theorem qBa {a b : Int} (ha : Sm a) (hb : Sm b) (h : Go.Lib.itoa a = Go.Lib.itoa b) : a = b := by
 obtain ⟨k, rfl⟩ : ∃ k : Nat, a = (k : Int) := ⟨a.toNat, by have := ha.1; omega⟩
 obtain ⟨m, rfl⟩ : ∃ k : Nat, b = (k : Int) := ⟨b.toNat, by have := hb.1; omega⟩
 rw [qCl, qCl] at h
 rw [qMW _ _ h]
theorem qEj {a : Int} (ha : Sm a) {c : UInt8} (hc : c.toNat < 48) : c ∉ Go.Lib.itoa a := by
 obtain ⟨k, rfl⟩ : ∃ k : Nat, a = (k : Int) := ⟨a.toNat, by have := ha.1; omega⟩
 rw [qCl]
 intro h
 have := qJ7 k c h
 omega
theorem qDP {α : Type} {c : α} : ∀ {l1 l2 r1 r2 : List α}, c ∉ l1 -> c ∉ l2 -> l1 ++ c :: r1 = l2 ++ c :: r2 -> l1 = l2 /\ r1 = r2
 | [], [], r1, r2, _, _, h => by simpa using h
 | [], y :: l2, r1, r2, _, h2, h => by
  simp only [List.nil_append, List.cons_append, List.cons.injEq] at h
  exact absurd (by rw [h.1]; exact List.mem_cons_self) h2
 | x :: l1, [], r1, r2, h1, _, h => by
  simp only [List.nil_append, List.cons_append, List.cons.injEq] at h
  exact absurd (by rw [<- h.1]; exact List.mem_cons_self) h1
 | x :: l1, y :: l2, r1, r2, h1, h2, h => by
  simp only [List.cons_append, List.cons.injEq] at h
  obtain ⟨rfl, h⟩ := h
  obtain ⟨rfl, e⟩ := qDP (fun hh => h1 (List.mem_cons_of_mem _ hh)) (fun hh => h2 (List.mem_cons_of_mem _ hh)) h
  exact ⟨rfl, e⟩
theorem qHw (l : List Int) : qAF l = [] \/ ∃ r, qAF l = 44 :: r := by
 cases l with
 | nil => exact .inl rfl
 | cons k r => exact .inr ⟨_, rfl⟩
theorem qHM {l1 l2 : List UInt8} {a b : List Int} (h1 : (44 : UInt8) ∉ l1) (h2 : (44 : UInt8) ∉ l2) (h : l1 ++ qAF a = l2 ++ qAF b) : l1 = l2 /\ qAF a = qAF b := by
 rcases qHw a with ea | ⟨ra, ea⟩ <;> rcases qHw b with eb | ⟨rb, eb⟩ <;> rw [ea, eb] at h ⊢
 ·rw [List.append_nil, List.append_nil] at h; exact ⟨h, rfl⟩
 ·rw [List.append_nil] at h
  exact absurd (by rw [h]; simp) h1
 ·rw [List.append_nil] at h
  exact absurd (by rw [<- h]; simp) h2
 ·obtain ⟨e1, e2⟩ := qDP h1 h2 h
  exact ⟨e1, by rw [e2]⟩
theorem qFq : ∀ {a b : List Int}, (∀ k ∈ a, Sm k) -> (∀ k ∈ b, Sm k) -> qAF a = qAF b -> a = b
 | [], [], _, _, _ => rfl
 | [], _ :: _, _, _, h => by cases h
 | _ :: _, [], _, _, h => by cases h
 | x :: a, y :: b, ha, hb, h => by
  simp only [qAF, List.cons.injEq, true_and] at h
  have hx := ha x List.mem_cons_self
  have hy := hb y List.mem_cons_self
  obtain ⟨e1, e2⟩ := qHM (qEj hx (by decide)) (qEj hy (by decide)) h
  rw [qBa hx hy e1, qFq (fun k hk => ha k (List.mem_cons_of_mem _ hk)) (fun k hk => hb k (List.mem_cons_of_mem _ hk)) e2]
theorem qIG {b : Int} {l : List Int} {c : UInt8} (hc : c = 44 \/ c = 47) : c ∉ wtx b l := by
 have hx : ∀ v : Nat, v < 16 -> qLd v ≠ 44 /\ qLd v ≠ 47 := by decide
 have hd : ∀ {ws : List Nat} {e k : Nat}, (e = 1 \/ e = 4) -> c ∉ qX (dgs ws e k) := fun {ws e k} he h => by
  obtain ⟨v, hv, rfl⟩ := qEs k h
  have hv : v < 16 := by rcases he with rfl | rfl <;> omega
  rcases hc with hc | hc
  ·exact (hx v hv).1 hc
  ·exact (hx v hv).2 hc
 unfold wtx qNp
 split
 ·split
  ·intro h
   have e : qX ([35, 120] ++ dgs (wN l) 4 (b.toNat / 4)) = 35 :: 120 :: qX (dgs (wN l) 4 (b.toNat / 4)) := rfl
   rw [e] at h
   rcases List.mem_cons.1 h with h | h
   ·subst h; rcases hc with hc | hc <;> exact absurd hc (by decide)
   ·rcases List.mem_cons.1 h with h | h
    ·subst h; rcases hc with hc | hc <;> exact absurd hc (by decide)
    ·exact hd (.inr rfl) h
  ·intro h
   have e : qX ([35, 98] ++ dgs (wN l) 1 b.toNat) = 35 :: 98 :: qX (dgs (wN l) 1 b.toNat) := rfl
   rw [e] at h
   rcases List.mem_cons.1 h with h | h
   ·subst h; rcases hc with hc | hc <;> exact absurd hc (by decide)
   ·rcases List.mem_cons.1 h with h | h
    ·subst h; rcases hc with hc | hc <;> exact absurd hc (by decide)
    ·exact hd (.inl rfl) h
 ·intro h; cases h
theorem qGV {w : Nat} {ws : List Nat} (ho : Ok (w : Int) ws) : 3 <= (wtx w (W ws)).length := by
 have := (qIF ho rfl).2.1
 unfold okT qQa at this
 rw [Bool.and_eq_true, Bool.and_eq_true, decide_eq_true_eq] at this
 exact this.1.1.1
theorem qNZ : zM 0 [] = false := by decide
theorem qMl {a b : Int} {l m : List Int} (hl : Wd l) (hm : Wd m) (h1 : zM a l = true \/ (a = 0 /\ l = [])) (h2 : zM b m = true \/ (b = 0 /\ m = [])) (h : wtx a l = wtx b m) : a = b /\ l = m := by
 rcases h1 with h1 | ⟨rfl, rfl⟩ <;> rcases h2 with h2 | ⟨rfl, rfl⟩
 ·obtain ⟨ws, rfl, ho⟩ := yV hl h1
  obtain ⟨vs, rfl, hp⟩ := yV hm h2
  have q1 := ho.lo
  have q2 := hp.lo
  obtain ⟨w, rfl⟩ : ∃ w : Nat, a = (w : Int) := ⟨a.toNat, by omega⟩
  obtain ⟨v, rfl⟩ : ∃ w : Nat, b = (w : Int) := ⟨b.toNat, by omega⟩
  obtain ⟨_, _, r1, r2⟩ := qIF ho rfl
  obtain ⟨_, _, s1, s2⟩ := qIF hp rfl
  rw [h] at r1 r2
  exact ⟨by rw [<- r1, s1], by rw [<- r2, s2]⟩
 ·obtain ⟨ws, rfl, ho⟩ := yV hl h1
  have q1 := ho.lo
  obtain ⟨w, rfl⟩ : ∃ w : Nat, a = (w : Int) := ⟨a.toNat, by omega⟩
  have := qGV ho
  rw [h, wtx, if_neg (by rw [qNZ]; decide)] at this
  simp at this
 ·obtain ⟨ws, rfl, ho⟩ := yV hm h2
  have q1 := ho.lo
  obtain ⟨w, rfl⟩ : ∃ w : Nat, b = (w : Int) := ⟨b.toNat, by omega⟩
  have := qGV ho
  rw [<- h, wtx, if_neg (by rw [qNZ]; decide)] at this
  simp at this
 ·exact ⟨rfl, rfl⟩
theorem qLb {x y : qA} (hx : kZ x) (hy : kZ y) (h : qLI x = qLI y) : x = y := by
 obtain ⟨a1, a2, a3, a4, a5, a6, a7⟩ := x
 obtain ⟨b1, b2, b3, b4, b5, b6, b7⟩ := y
 have n47 : ∀ {a : Int}, Sm a -> (47 : UInt8) ∉ Go.Lib.itoa a := fun ha => qEj ha (by decide)
 simp only [qLI, qQy, List.append_assoc, List.singleton_append] at h
 obtain ⟨e1, h⟩ := qDP (n47 hx.op) (n47 hy.op) h
 obtain ⟨e2, h⟩ := qDP (n47 hx.v) (n47 hy.v) h
 obtain ⟨e3, h⟩ := qDP (n47 hx.a) (n47 hy.a) h
 obtain ⟨e4, h⟩ := qDP (n47 hx.b) (n47 hy.b) h
 obtain ⟨e5, e6⟩ := qHM (qIG (.inl rfl)) (qIG (.inl rfl)) h
 obtain ⟨e7, e8⟩ := qMl hx.w hy.w hx.ok hy.ok e5
 have k1 := qBa hx.op hy.op e1
 have k2 := qBa hx.v hy.v e2
 have k3 := qBa hx.a hy.a e3
 have k4 := qBa hx.b hy.b e4
 have k5 := qFq hx.k hy.k e6
 simp only at k1 k2 k3 k4 k5 e7 e8
 rw [k1, k2, k3, k4, k5, e7, e8]
def zT (to : List Int) (x : qA) : qA := (x.1, x.2.1, x.2.2.1, x.2.2.2.1, x.2.2.2.2.1, x.2.2.2.2.2.1, x.2.2.2.2.2.2.map fun k => rd to k.toNat)
def ixA (x : qA) (a : List qA) : Int := qR (fun y => decide (y = x)) a 0
def yL (x : qA) (a : List qA) : Int × List qA := if ixA x a < 0 then ((a.length : Int), a ++ [x]) else (ixA x a, a)
def qE : List qA -> List Int -> List qA -> List Int × List qA
 | [], to, a => (to, a)
 | x :: r, to, a => qE r (to ++ [(yL (zT to x) a).1]) (yL (zT to x) a).2
def vC : List qA -> Int -> List qQ
 | [], _ => []
 | x :: r, i => (qLI x, i) :: vC r (i + 1)
theorem qDG : ∀ {a b : List qA} {i : Int}, vC (a ++ b) i = vC a i ++ vC b (i + a.length)
 | [], b, i => by simp [vC]
 | x :: a, b, i => by
  rw [List.cons_append, vC, vC, qDG, List.cons_append, List.length_cons]
  congr 3; omega
theorem qHB {x : qA} (hx : kZ x) : ∀ {a : List qA} {i : Int}, 0 <= i -> (∀ y ∈ a, kZ y) -> qFi (vC a i) (qLI x) = if qR (fun y => decide (y = x)) a i < 0 then none else some (qR (fun y => decide (y = x)) a i)
 | [], i, _, _ => rfl
 | y :: a, i, h0, ha => by
  by_cases he : y = x
  ·have e : qR (fun z => decide (z = x)) (y :: a) i = i := by simp [qR, he]
   rw [vC, qFi, if_pos (by rw [he]), e, if_neg (by omega)]
  ·have hk : qLI y ≠ qLI x := fun h => he (qLb (ha y List.mem_cons_self) hx h)
   have e : qR (fun z => decide (z = x)) (y :: a) i = qR (fun z => decide (z = x)) a (i + 1) := by simp [qR, he]
   rw [vC, qFi, if_neg (by simpa using hk), e]
   exact qHB hx (by omega) fun z hz => ha z (List.mem_cons_of_mem _ hz)
theorem qHk {α β : Type} [DecidableEq α] {k : α} {v : β} : ∀ {l : List (α × β)}, qFi l k = none -> qIi l k v = l ++ [(k, v)]
 | [], _ => rfl
 | x :: l, h => by
  rw [qFi] at h
  by_cases hx : x.1 = k
  ·rw [if_pos hx] at h; cases h
  ·rw [if_neg hx] at h
   rw [qIi, if_neg hx, qHk h, List.cons_append]
theorem qGD {l : List Int} (hl : l.length <= 1099511627776) (R : Nat -> List Int -> Prop) :
  Ev (fun n => Z57.c n l (R n)) ↔ Ev (fun n => R n l) := by
 refine Ev.suc.trans ?_
 simp (disch := (simp only [List.length_nil]; omega)) only [Z57.c, Z57.w, Ev.andI, Ev.impI, jT, List.nil_append, Ev.s1 R]
 exact ⟨fun h => h.2, fun h => ⟨fun h0 => by rw [List.eq_nil_of_length_eq_zero h0] at h; exact h, h⟩⟩
theorem qGC {l : List Int} (hl : l.length <= 1099511627776) (R : Nat -> List Int -> Prop) :
  Ev (fun n => Z58.c n l (R n)) ↔ Ev (fun n => R n l) := by
 refine Ev.suc.trans ?_
 simp (disch := (simp only [List.length_nil]; omega)) only [Z58.c, Z58.w, Ev.andI, Ev.impI, jT, List.nil_append, Ev.s1 R]
 exact ⟨fun h => h.2, fun h => ⟨fun h0 => by rw [List.eq_nil_of_length_eq_zero h0] at h; exact h, h⟩⟩
theorem qFN {a b c d e : Int} {w k : List Int} (hw : w.length <= 1099511627776) (hk : k.length <= 1099511627776) (R : Nat -> Int -> Int -> Int -> Int -> Int -> List Int -> List Int -> Prop) :
  Ev (fun n => Z12.c n a b c d e w k (R n)) ↔ Ev (fun n => R n a b c d e w k) := by
 refine Ev.suc.trans ?_
 simp only [Z12.c, Z12.w]
 have h1 : ∀ S : Nat -> Int -> List Int -> Prop, (Ev (fun n => Z11.c n e w (S n)) ↔ Ev (fun n => S n e w)) := fun S => by
  refine Ev.suc.trans ?_
  simp only [Z11.c, Z11.w]
  rw [qGC hw (fun n l => S (n + 1) e l), Ev.s2 S]
 rw [h1 (fun n h i => Z57.c n k (R (n + 1) a b c d h i)), qGD hk (fun n i => R (n + 1) a b c d e w i), Ev.s7 R]
theorem qN2 {a : List qA} {x : qA} (ha : ∀ y ∈ a, kZ y) (hx : kZ x) (hw : x.2.2.2.2.2.1.length <= 1099511627776) (hl : a.length <= 1000000) (R : Nat -> Int -> List qA -> List qQ -> Prop) :
  Ev (fun n => Z8.c n a (vC a 0) x.1 x.2.1 x.2.2.1 x.2.2.2.1 x.2.2.2.2.1 x.2.2.2.2.2.1 x.2.2.2.2.2.2 (R n)) ↔ Ev (fun n => R n (yL x a).1 (yL x a).2 (vC (yL x a).2 0)) := by
 have hk : x.2.2.2.2.2.2.length <= 1099511627776 := Nat.le_trans hx.kl (by decide)
 refine Ev.suc.trans ?_
 simp only [Z8.c, Z8.w]
 have hg := qHB hx (i := 0) (by omega) ha
 have ke := qNJ hx
 have g : ∀ y : qA, a.length + ([y] : List qA).length <= 790660046940 := fun y => by simp only [List.length_cons, List.length_nil]; omega
 simp (disch := assumption) only [ke, qFN, Ev.iteI, Ev.andI, jT (g _), and_self]
 rw [hg]
 unfold yL
 rw [show qR (fun y => decide (y = x)) a 0 = ixA x a from rfl] at hg ⊢
 by_cases hi : ixA x a < 0
 ·rw [if_pos hi] at hg ⊢
  rw [if_pos hi, qHk hg, Ev.s3 R]
  simp [qDG, vC]
 ·rw [if_neg hi] at hg ⊢
  rw [if_neg hi]
  simp
  exact Ev.s3 R _ _ _
def vY (v inst : Int) : List qA -> List Int -> List qA -> List Int × List qA
 | [], to, a => (to, a)
 | x :: r, to, a => if x.1 = 1 /\ x.2.1 = v then vY v inst r (to ++ [inst]) a else vY v inst r (to ++ [(yL (zT to x) a).1]) (yL (zT to x) a).2
theorem qDz {v inst : Int} : ∀ {ys : List qA} {to : List Int} {a : List qA}, (∀ y ∈ ys, ¬ (y.1 = 1 /\ y.2.1 = v)) -> vY v inst ys to a = qE ys to a
 | [], _, _, _ => rfl
 | x :: ys, to, a, h => by
  rw [vY, if_neg (h x List.mem_cons_self), qE, qDz fun y hy => h y (List.mem_cons_of_mem _ hy)]
theorem qLJ {x : qA} : ∀ {a : List qA} {i : Int}, 0 <= i -> qR (fun y => decide (y = x)) a i < 0 \/ (i <= qR (fun y => decide (y = x)) a i /\ qR (fun y => decide (y = x)) a i < i + a.length)
 | [], i, h => .inl (by simp [qR])
 | y :: a, i, h => by
  rw [qR, List.length_cons]
  split
  ·exact .inr ⟨by omega, by omega⟩
  ·rcases qLJ (x := x) (a := a) (i := i + 1) (by omega) with h1 | ⟨h1, h2⟩
   ·exact .inl h1
   ·exact .inr ⟨by omega, by omega⟩
theorem qEF {x : qA} {a : List qA} : 0 <= (yL x a).1 /\ (yL x a).1 < ((yL x a).2.length : Int) /\ a.length <= (yL x a).2.length /\ (yL x a).2.length <= a.length + 1 := by
 unfold yL
 split
 ·simp; omega
 ·rename_i h
  rcases qLJ (x := x) (a := a) (i := 0) (by omega) with h1 | ⟨h1, h2⟩
  ·exact absurd h1 h
  ·simp only; exact ⟨h1, by unfold ixA; omega, by omega, by omega⟩
theorem qEE {x y : qA} {a : List qA} (h : y ∈ (yL x a).2) : y ∈ a \/ y = x := by
 unfold yL at h
 split at h
 ·simpa using h
 ·exact .inl h
theorem qLH {to : List Int} {x : qA} (hx : kZ x) (hk : jF to.length x.2.2.2.2.2.2 = true) (ht : ∀ k ∈ to, Sm k) : kZ (zT to x) :=
 ⟨hx.op, hx.v, hx.a, hx.b, hx.w, fun k hk' => by
  obtain ⟨j, hj, rfl⟩ := List.mem_map.1 hk'
  unfold jF at hk
  rw [List.all_eq_true] at hk
  have := of_decide_eq_true (hk j hj)
  exact ht _ (qJe this.1 (by omega)), by show (List.map _ _).length <= 4096; rw [List.length_map]; exact hx.kl, hx.ok⟩
theorem qHA {e f g : Int} {h : List qA} {i j : Int} {ks c : List Int} {l : List qA} {m : List qQ} {o p q r s : Int} {t u : List Int} (hl : ks.length <= 4096) : ∀ (ys : List Int) (x : Int) (done rest : List Int), ks.drop x.toNat = ys -> x = done.length -> rest.length = ys.length -> jF c.length ys = true ->
  ∀ Kx : Nat -> Int -> Int -> Int -> List qA -> Int -> Int -> List Int -> List Int -> List qA -> List qQ -> Int -> Int -> Int -> Int -> Int -> List Int -> List Int -> Prop,
  (Ev (fun n => Z9.l9 n e f g h i j ks ks.length c l m o p q r s t u x (done ++ rest) (Kx n)) ↔ Ev (fun n => Kx n e f g h i j c (done ++ ys.map fun k => rd c k.toNat) l m o p q r s t u))
 | [], x, done, rest, h1, hx, hr, hk, Kx => by
  have := qO h1 (by omega)
  have hr0 : rest = [] := List.eq_nil_of_length_eq_zero (by simpa using hr)
  subst hr0
  refine Ev.suc.trans ?_
  simp (disch := omega) only [Z9.l9, Z9.l9.b, if_neg, decide_eq_true_eq, List.map_nil]
  exact Ev.s0 fun n => Kx n e f g h i j c (done ++ []) l m o p q r s t u
 | y :: ys, x, done, rest, h1, hx, hr, hk, Kx => by
  obtain ⟨e1, e2, e3⟩ := qD h1 (by omega)
  rw [jW] at hk
  match rest, hr with
  | z :: rest, hr =>
   have hr' : rest.length = ys.length := by simpa using hr
   have es : ∀ w : Int, (done ++ z :: rest).set x.toNat w = (done ++ [w]) ++ rest := fun w => by
    rw [hx, Int.toNat_natCast, List.set_append_right _ _ (Nat.le_refl _), Nat.sub_self, List.set_cons_zero]; simp
   have el : (done ++ z :: rest).length = done.length + (rest.length + 1) := by simp
   refine Ev.suc.trans ?_
   simp (disch := omega) only [Z9.l9, Z9.l9.b, if_pos, decide_eq_true_eq, qB, e2, qG, el, es]
   rw [qHA hl ys (x + 1) (done ++ [rd c y.toNat]) rest e3 (by simp; omega) hr' hk.2 (fun n => Kx (n + 1))]
   rw [List.append_assoc, List.singleton_append, List.map_cons]
   exact Ev.s0 fun n => Kx n e f g h i j c (done ++ rd c y.toNat :: ys.map fun k => rd c k.toNat) l m o p q r s t u
theorem qLC {v inst : Int} {t : List qA} (hi : Sm inst) (ht : t.length <= 1000000) : ∀ (ys : List qA) (to z : List Int) (a : List qA), t.drop to.length = ys -> to.length + z.length = t.length -> (∀ y ∈ ys, kZ y /\ y.2.2.2.2.2.1.length <= 1099511627776) -> jH to.length ys ->
  (∀ y ∈ a, kZ y) -> (∀ k ∈ to, Sm k) -> a.length + ys.length <= 1000000 -> ∀ Kx : Nat -> List Int -> List qA -> List qQ -> Prop,
  (Ev (fun n => Z9.l3 n v inst t t.length to.length (to ++ z) a (vC a 0) (Kx n)) ↔ Ev (fun n => Kx n (vY v inst ys to a).1 (vY v inst ys to a).2 (vC (vY v inst ys to a).2 0)))
 | [], to, z, a, h, hz, hy, hk, ha, hto, hal, Kx => by
  have hle := List.drop_eq_nil_iff.1 h
  have hz0 : z = [] := List.eq_nil_of_length_eq_zero (by omega)
  subst hz0
  refine Ev.suc.trans ?_
  simp (disch := omega) only [Z9.l3, Z9.l3.b, if_neg, decide_eq_true_eq, vY, List.append_nil]
  exact Ev.s3 Kx _ _ _
 | x :: ys, to, z, a, h, hz, hy, hk, ha, hto, hal, Kx => by
  have h' : t.drop (to.length : Int).toNat = x :: ys := h
  obtain ⟨e1, e2, e3⟩ := qD h' (by omega)
  have e2' : rd t to.length = x := e2
  obtain ⟨hx, hxw⟩ := hy x List.mem_cons_self
  rw [List.length_cons] at hal
  match z, hz with
  | [], hz => simp at hz; omega
  | z0 :: z, hz =>
   rw [List.length_cons] at hz
   have el : (to ++ z0 :: z).length = to.length + (z.length + 1) := by simp
   have es : ∀ u : Int, (to ++ z0 :: z).set to.length u = (to ++ [u]) ++ z := fun u => by
    rw [List.set_append_right _ _ (Nat.le_refl _), Nat.sub_self, List.set_cons_zero]; simp
   have ew : IntKind.wrap .i64 ((to.length : Int) + 1) = ((to.length + 1 : Nat) : Int) := by rw [qG (by omega) (by omega)]; simp
   have nxt : ∀ (u : Int) (a' : List qA), Sm u -> (∀ y ∈ a', kZ y) -> a'.length <= a.length + 1 -> ∀ Kx : Nat -> List Int -> List qA -> List qQ -> Prop, ((Ev fun n => Z9.l3 n v inst t t.length (IntKind.wrap .i64 ((to.length : Int) + 1)) ((to ++ [u]) ++ z) a' (vC a' 0) (Kx n)) ↔
     Ev fun n => Kx n (vY v inst ys (to ++ [u]) a').1 (vY v inst ys (to ++ [u]) a').2 (vC (vY v inst ys (to ++ [u]) a').2 0)) := fun u a' hu ha' hl' Kx => by
    have := qLC (v := v) (inst := inst) hi ht ys (to ++ [u]) z a' (by rw [<- e3, List.length_append]; rfl) (by simp; omega) (fun y hy' => hy y (List.mem_cons_of_mem _ hy')) (by rw [List.length_append]; exact hk.2) ha'
     (fun k hk' => by rcases List.mem_append.1 hk' with hk' | hk'; exact hto k hk'; rw [List.mem_singleton] at hk'; rw [hk']; exact hu) (by omega) Kx
    rw [ew]
    rw [List.length_append] at this
    exact this
   have hkm := qLH hx hk.1 hto
   have into : ((Ev fun n => Z9.j5 (fun j k l m o p q r => Z9.l3 n j k l m o p q r (Kx (n + 1))) (Z9.l9 n) n x.2.2.2.2.2.1 x.2.2.2.2.2.2 v inst t t.length to.length (to ++ z0 :: z) a (vC a 0)) ↔
     Ev fun n => Kx n (vY v inst ys (to ++ [(yL (zT to x) a).1]) (yL (zT to x) a).2).1 (vY v inst ys (to ++ [(yL (zT to x) a).1]) (yL (zT to x) a).2).2 (vC (vY v inst ys (to ++ [(yL (zT to x) a).1]) (yL (zT to x) a).2).2 0)) := by
    have hkl := hx.kl
    have g1 : (0 : Int) <= (x.2.2.2.2.2.2.length : Int) /\ (x.2.2.2.2.2.2.length : Int) <= 7818749353073 := ⟨by omega, by omega⟩
    have kl := qHA (e := v) (f := inst) (g := to.length) (h := t) (i := t.length) (j := to.length) (ks := x.2.2.2.2.2.2) (c := to ++ z0 :: z) (l := a) (m := vC a 0) (o := x.1) (p := x.2.1) (q := x.2.2.1) (r := x.2.2.2.1) (s := x.2.2.2.2.1) (t := x.2.2.2.2.2.1) (u := x.2.2.2.2.2.2) hx.kl x.2.2.2.2.2.2 0 [] (List.replicate x.2.2.2.2.2.2.length 0) rfl rfl (by simp)
     (by
      have h1 := hk.1
      unfold jF at h1 ⊢
      rw [List.all_eq_true] at h1 ⊢
      intro k hk'
      have := of_decide_eq_true (h1 k hk')
      exact decide_eq_true (by rw [el]; omega))
    have em : (x.2.2.2.2.2.2.map fun k => rd (to ++ z0 :: z) k.toNat) = x.2.2.2.2.2.2.map fun k => rd to k.toNat := by
     refine List.map_congr_left fun k hk' => ?_
     have h1 := hk.1
     unfold jF at h1
     rw [List.all_eq_true] at h1
     have := of_decide_eq_true (h1 k hk')
     exact qBS (by omega)
    simp only [Z9.j5, e2', Int.toNat_natCast, decide_true, Bool.and_true, qB g1]
    rw [List.nil_append] at kl
    rw [kl (fun n q r d s t' u e v' w x' y z A B D E I => Z8.c n w x' y z A B D E v' fun F G H => grd (decide (0 <= d) && decide (d < e.length)) (Z9.l3 n q r s t' (IntKind.wrap .i64 (u + 1)) (List.set e (Int.toNat d) F) G H (Kx (n + 1))))]
    have ad := qN2 (x := zT to x) ha hkm hxw (by omega) (fun n F G H => grd (decide ((0 : Int) <= to.length) && decide ((to.length : Int) < (to ++ z0 :: z).length)) (Z9.l3 n v inst t t.length (IntKind.wrap .i64 ((to.length : Int) + 1)) (List.set (to ++ z0 :: z) (Int.toNat to.length) F) G H (Kx (n + 1))))
    rw [List.nil_append, em]
    refine ad.trans ?_
    have g2 : (0 : Int) <= to.length /\ (to.length : Int) < (to ++ z0 :: z).length := ⟨by omega, by rw [el]; omega⟩
    simp only [qB g2, Int.toNat_natCast, es]
    obtain ⟨q1, q2, q3, q4⟩ := qEF (x := zT to x) (a := a)
    rw [nxt _ _ ⟨q1, by omega⟩ (fun y hy' => (qEE hy').elim (ha y) fun e => e ▸ hkm) q4 (fun n => Kx (n + 1))]
    exact Ev.s3 Kx _ _ _
   refine Ev.suc.trans ?_
   simp (disch := omega) only [Z9.l3, Z9.l3.b, if_pos, decide_eq_true_eq, qB, Int.toNat_natCast, e2', Ev.iteI, Z9.j6, el, es]
   rw [vY]
   by_cases h1 : x.1 = 1
   ·by_cases h2 : x.2.1 = v
    ·rw [if_pos h1, if_pos h2, if_pos ⟨h1, h2⟩]
     rw [nxt inst a hi ha (by omega) (fun n => Kx (n + 1))]
     exact Ev.s3 Kx _ _ _
    ·rw [if_pos h1, if_neg h2, if_neg (fun hh => h2 hh.2)]
     exact into
   ·rw [if_neg h1]
    simp only [Bool.false_eq_true, if_false]
    rw [if_neg (show ¬ (x.1 = 1 /\ x.2.1 = v) from fun hh => h1 hh.1)]
    exact into
theorem qBL {v inst : Int} {t a : List qA} (hi : Sm inst) (ht : t.length <= 1000) (hy : ∀ y ∈ t, kZ y /\ y.2.2.2.2.2.1.length <= 1099511627776) (hk : jH 0 t) (ha : ∀ y ∈ a, kZ y) (hal : a.length <= 1000) (R : Nat -> List Int -> List qA -> List qQ -> Prop) :
  Ev (fun n => Z9.c n a (vC a 0) t v inst (R n)) ↔ Ev (fun n => R n (vY v inst t [] a).1 (vY v inst t [] a).2 (vC (vY v inst t [] a).2 0)) := by
 refine Ev.suc.trans ?_
 have g1 : (0 : Int) <= (t.length : Int) /\ (t.length : Int) <= 7818749353073 := ⟨by omega, by omega⟩
 simp only [Z9.c, Z9.w, decide_true, Bool.and_true, qB g1, Int.toNat_natCast]
 have lp := qLC (v := v) (inst := inst) hi (by omega) t [] (List.replicate t.length 0) a rfl (by simp) hy hk ha (fun _ h => by cases h) (by omega) (fun n => R (n + 1))
 rw [List.nil_append] at lp
 refine lp.trans (Ev.s3 R _ _ _)
def yH (nodes : List qA) : Nat -> List Bool -> List Bool
 | 0, u => u
 | m + 1, u => yH nodes m (if rd u m = true then zS u (rd nodes m).2.2.2.2.2.2 else u)
def yN (u : List Bool) : List qA -> List Int -> List qA -> List qA
 | [], _, out => out
 | x :: r, to, out => if rd u to.length = true then yN u r (to ++ [(out.length : Int)]) (out ++ [zT to x]) else yN u r (to ++ [0]) out
def vM (nodes : List qA) (root : Nat) : List qA := yN (yH nodes (root + 1) ((List.replicate nodes.length false).set root true)) nodes [] []
theorem qCP {nodes : List qA} : ∀ {m : Nat} {u : List Bool}, (yH nodes m u).length = u.length
 | 0, _ => rfl
 | m + 1, u => by
  rw [yH, qCP]
  split
  ·exact vG
  ·rfl
theorem wX : ∀ {ys : List qA} {i j : Nat}, jH i ys -> j < ys.length -> jF ((i + j : Nat) : Int) (rd ys j).2.2.2.2.2.2 = true
 | x :: ys, i, 0, h, _ => h.1
 | x :: ys, i, j + 1, h, hj => by
  have := wX (i := i + 1) (j := j) h.2 (by simpa using hj)
  rw [show i + (j + 1) = i + 1 + j from by omega]
  exact this
theorem yQ {a b : Int} {ks : List Int} (h : jF a ks = true) (hab : a <= b) : jF b ks = true := by
 unfold jF at h ⊢
 rw [List.all_eq_true] at h ⊢
 intro k hk
 have := of_decide_eq_true (h k hk)
 exact decide_eq_true (by omega)
theorem qJw {f : Int} {e : Nat} {b i : List qA} {h : List qQ} {ks : List Int} (hks : (rd b e).2.2.2.2.2.2 = ks) (hl : ks.length <= 4096) : ∀ (ys : List Int) (x : Int) (u : List Bool), ks.drop x.toNat = ys -> 0 <= x -> jF u.length ys = true ->
  ∀ Kx : Nat -> Int -> List Bool -> List qA -> List qQ -> List qA -> Prop,
  (Ev (fun n => Z10.l8 n f e ks.length b h i x u (Kx n)) ↔ Ev (fun n => Kx n f (zS u ys) b h i))
 | [], x, u, h1, h0, hk, Kx => by
  have := qO h1 h0
  refine Ev.suc.trans ?_
  simp (disch := omega) only [Z10.l8, Z10.l8.b, if_neg, decide_eq_true_eq, zS]
  exact Ev.s5 Kx _ _ _ _ _
 | y :: ys, x, u, h1, h0, hk, Kx => by
  obtain ⟨e1, e2, e3⟩ := qD h1 h0
  rw [jW] at hk
  refine Ev.suc.trans ?_
  simp (disch := omega) only [Z10.l8, Z10.l8.b, if_pos, decide_eq_true_eq, qB, hks, e2, qG]
  rw [qJw hks hl ys (x + 1) (u.set y.toNat true) e3 (by omega) (by rw [List.length_set]; exact hk.2) (fun n => Kx (n + 1)), zS]
  exact Ev.s5 Kx _ _ _ _ _
theorem qGk {nodes e : List qA} {d : List qQ} (hn : nodes.length <= 1000000) (hk : jH 0 nodes) (hl : ∀ x ∈ nodes, x.2.2.2.2.2.2.length <= 4096) : ∀ (m : Nat) (u : List Bool), u.length = nodes.length -> m <= nodes.length ->
  ∀ Kx : Nat -> List Bool -> List qA -> List qQ -> List qA -> Prop,
  (Ev (fun n => Z10.l4 n ((m : Int) - 1) u nodes d e (Kx n)) ↔ Ev (fun n => Kx n (yH nodes m u) nodes d e))
 | 0, u, hu, hm, Kx => by
  refine Ev.suc.trans ?_
  simp only [Z10.l4, Z10.l4.b]
  rw [Ev.iteI, if_neg (by simp), yH]
  exact Ev.s4 Kx _ _ _ _
 | m + 1, u, hu, hm, Kx => by
  have hx : rd nodes m ∈ nodes := by
   rw [rd, List.getD_eq_getElem?_getD, List.getElem?_eq_getElem (by omega)]
   exact List.getElem_mem _
  have ea : ((m + 1 : Nat) : Int) - 1 = (m : Int) := by omega
  have g1 : (0 : Int) <= (m : Int) /\ (m : Int) < (u.length : Int) := ⟨by omega, by omega⟩
  have g2 : (0 : Int) <= (m : Int) /\ (m : Int) < (nodes.length : Int) := ⟨by omega, by omega⟩
  refine Ev.suc.trans ?_
  simp only [Z10.l4, Z10.l4.b, ea]
  rw [Ev.iteI, if_pos (by simp), yH]
  simp only [qB g1, qB g2, Int.toNat_natCast, Ev.iteI]
  have ew : IntKind.wrap .i64 ((m : Int) - 1) = (m : Int) - 1 := qG (by omega) (by omega)
  by_cases hr : rd u m = true
  ·rw [if_pos hr, if_pos hr]
   have hki := yQ (wX (i := 0) hk (show m < nodes.length by omega)) (show ((0 + m : Nat) : Int) <= (u.length : Int) by omega)
   rw [qJw rfl (hl _ hx) (rd nodes m).2.2.2.2.2.2 0 u rfl (by omega) hki (fun n j c b h i => Z10.l4 n (IntKind.wrap .i64 (j - 1)) c b h i (Kx (n + 1)))]
   rw [ew, qGk hn hk hl m _ (by rw [vG]; exact hu) (by omega) (fun n => Kx (n + 1))]
   exact Ev.s4 Kx _ _ _ _
  ·rw [if_neg hr, if_neg hr, ew, qGk hn hk hl m _ hu (by omega) (fun n => Kx (n + 1))]
   exact Ev.s4 Kx _ _ _ _
theorem qHz {d e : Int} {g : List Bool} {c h : List Int} {i : List qA} {j : Nat} {k l : List qA} {m o p q r : Int} {N : Nat} (hN : N <= 4096) : ∀ (ys done : List Int), done.length + ys.length = N -> jF c.length ys = true ->
  ∀ Kx : Nat -> Int -> Int -> List Bool -> List Int -> List Int -> List Int -> List qA -> Nat -> List qA -> List qA -> Int -> Int -> Int -> Int -> Int -> Prop,
  (Ev (fun n => Z10.l20 n d e N g c h i j k l m o p q r done.length (done ++ ys) (Kx n)) ↔ Ev (fun n => Kx n d e g c h (done ++ ys.map fun k => rd c k.toNat) i j k l m o p q r))
 | [], done, hN', hk, Kx => by
  refine Ev.suc.trans ?_
  simp only [List.length_nil, Nat.add_zero] at hN'
  simp (disch := omega) only [Z10.l20, Z10.l20.b, if_neg, decide_eq_true_eq, List.map_nil]
  exact Ev.s0 fun n => Kx n d e g c h (done ++ []) i j k l m o p q r
 | y :: ys, done, hN', hk, Kx => by
  rw [jW] at hk
  rw [List.length_cons] at hN'
  have el : (done ++ y :: ys).length = done.length + (ys.length + 1) := by simp
  have er : rd (done ++ y :: ys) done.length = y := qDx
  have es : ∀ w : Int, (done ++ y :: ys).set done.length w = (done ++ [w]) ++ ys := fun w => by
   rw [List.set_append_right _ _ (Nat.le_refl _), Nat.sub_self, List.set_cons_zero]; simp
  refine Ev.suc.trans ?_
  simp (disch := omega) only [Z10.l20, Z10.l20.b, if_pos, decide_eq_true_eq, qB, Int.toNat_natCast, er, qG, el, es]
  have := qHz (d := d) (e := e) (g := g) (c := c) (h := h) (i := i) (j := j) (k := k) (l := l) (m := m) (o := o) (p := p) (q := q) (r := r) hN ys (done ++ [rd c y.toNat]) (by simp; omega) hk.2 (fun n => Kx (n + 1))
  rw [show ((done ++ [rd c y.toNat]).length : Int) = (done.length : Int) + 1 from by simp] at this
  rw [this, List.append_assoc, List.singleton_append, List.map_cons]
  exact Ev.s0 fun n => Kx n d e g c h (done ++ rd c y.toNat :: ys.map fun k => rd c k.toNat) i j k l m o p q r
theorem qLE {nodes g : List qA} {u : List Bool} (hn : nodes.length <= 1000000) (hu : u.length = nodes.length) (hl : ∀ x ∈ nodes, x.2.2.2.2.2.2.length <= 4096) : ∀ (ys : List qA) (to z : List Int) (out : List qA), nodes.drop to.length = ys -> to.length + z.length = nodes.length -> (∀ w ∈ z, w = 0) -> jH to.length ys -> out.length <= to.length ->
  ∀ Kx : Nat -> List qA -> List qA -> Prop,
  (Ev (fun n => Z10.l15 n nodes.length to.length u (to ++ z) nodes to.length g out (Kx n)) ↔ Ev (fun n => Kx n g (yN u ys to out)))
 | [], to, z, out, h, hz, h0, hk, ho, Kx => by
  have hle := List.drop_eq_nil_iff.1 h
  refine Ev.suc.trans ?_
  simp (disch := omega) only [Z10.l15, Z10.l15.b, if_neg, decide_eq_true_eq, yN]
  exact Ev.s2 Kx _ _
 | x :: ys, to, z, out, h, hz, h0, hk, ho, Kx => by
  have h' : nodes.drop (to.length : Int).toNat = x :: ys := h
  obtain ⟨e1, e2, e3⟩ := qD h' (by omega)
  have e2' : rd nodes to.length = x := e2
  have hx : x ∈ nodes := by
   rw [<- e2', rd, List.getD_eq_getElem?_getD, List.getElem?_eq_getElem (by omega)]
   exact List.getElem_mem _
  match z, hz, h0 with
  | [], hz, h0 => simp at hz; omega
  | z0 :: z, hz, h0 =>
   have hz0 : z0 = 0 := h0 z0 List.mem_cons_self
   subst hz0
   rw [List.length_cons] at hz
   have el : (to ++ (0 : Int) :: z).length = to.length + (z.length + 1) := by simp
   have es : ∀ w : Int, (to ++ (0 : Int) :: z).set to.length w = (to ++ [w]) ++ z := fun w => by
    rw [List.set_append_right _ _ (Nat.le_refl _), Nat.sub_self, List.set_cons_zero]; simp
   have ew : IntKind.wrap .i64 ((to.length : Int) + 1) = ((to.length + 1 : Nat) : Int) := by rw [qG (by omega) (by omega)]; simp
   have g1 : to.length <= to.length := Nat.le_refl _
   have nxt : ∀ (w : Int) (out' : List qA), out'.length <= to.length + 1 -> ∀ Kx : Nat -> List qA -> List qA -> Prop, ((Ev fun n => Z10.l15 n nodes.length (IntKind.wrap .i64 ((to.length : Int) + 1)) u ((to ++ [w]) ++ z) nodes (to.length + 1) g out' (Kx n)) ↔ Ev fun n => Kx n g (yN u ys (to ++ [w]) out')) := fun w out' ho' Kx => by
    have := qLE (g := g) hn hu hl ys (to ++ [w]) z out' (by rw [<- e3, List.length_append]; rfl) (by simp; omega) (fun v hv => h0 v (List.mem_cons_of_mem _ hv)) (by rw [List.length_append]; exact hk.2) (by simp; omega) Kx
    rw [ew]
    rw [List.length_append] at this
    exact this
   have hkl := hl x hx
   refine Ev.suc.trans ?_
   simp (disch := omega) only [Z10.l15, Z10.l15.b, if_pos, decide_eq_true_eq, qB, jT, Int.toNat_natCast, e2', el, es, Ev.iteI]
   rw [yN]
   cases hr : rd u to.length with
   | false =>
    rw [if_pos (by rfl), if_neg (by decide)]
    have := nxt 0 out (by omega) (fun n => Kx (n + 1))
    rw [List.append_assoc, List.singleton_append] at this
    rw [this]
    exact Ev.s2 Kx _ _
   | true =>
    rw [if_neg (by decide), if_pos rfl]
    have kb := qHz (d := nodes.length) (e := to.length) (g := u) (c := (to ++ [(out.length : Int)]) ++ z) (h := x.2.2.2.2.2.1) (i := nodes) (j := to.length + 1) (k := g) (l := out) (m := x.1) (o := x.2.1) (p := x.2.2.1) (q := x.2.2.2.1) (r := x.2.2.2.2.1) hkl x.2.2.2.2.2.2 [] (by simp) (yQ hk.1 (by simp; omega))
    have em : (x.2.2.2.2.2.2.map fun k => rd ((to ++ [(out.length : Int)]) ++ z) k.toNat) = x.2.2.2.2.2.2.map fun k => rd to k.toNat := by
     refine List.map_congr_left fun k hk' => ?_
     have h1 := hk.1
     unfold jF at h1
     rw [List.all_eq_true] at h1
     have := of_decide_eq_true (h1 k hk')
     rw [List.append_assoc]
     exact qBS (by omega)
    rw [List.nil_append, List.nil_append, em] at kb
    refine (kb _).trans ?_
    have g2 : out.length + ([(x.1, x.2.1, x.2.2.1, x.2.2.2.1, x.2.2.2.2.1, x.2.2.2.2.2.1, x.2.2.2.2.2.2.map fun k => rd to k.toNat)] : List qA).length <= 790660046940 := by simp only [List.length_cons, List.length_nil]; omega
    simp only [jT g2]
    rw [nxt (out.length : Int) _ (by simp; omega) (fun n => Kx (n + 1))]
    exact Ev.s2 Kx _ _
theorem qHI {nodes : List qA} {d : List qQ} {root : Nat} (hn : nodes.length <= 1000000) (hr : root < nodes.length) (hk : jH 0 nodes) (hl : ∀ x ∈ nodes, x.2.2.2.2.2.2.length <= 4096) (R : Nat -> List qA -> Prop) :
  Ev (fun n => Z10.c n nodes d root (R n)) ↔ Ev (fun n => R n (vM nodes root)) := by
 have g1 : (0 : Int) <= (nodes.length : Int) /\ (nodes.length : Int) <= 35184372088832 := ⟨by omega, by omega⟩
 have g2 : (0 : Int) <= (root : Int) /\ (root : Int) < ((List.replicate nodes.length false).length : Int) := ⟨by omega, by simp; omega⟩
 have g3 : (0 : Int) <= (nodes.length : Int) /\ (nodes.length : Int) <= 7818749353073 := ⟨by omega, by omega⟩
 refine Ev.suc.trans ?_
 simp only [Z10.c, Z10.w, decide_true, Bool.and_true, qB g1, qB g2, Int.toNat_natCast]
 have n1 := qGk (e := ([] : List qA)) (d := d) hn hk hl (root + 1) ((List.replicate nodes.length false).set root true) (by simp) (by omega)
 rw [show ((root + 1 : Nat) : Int) - 1 = (root : Int) from by omega] at n1
 refine (n1 _).trans ?_
 simp only [decide_true, Bool.and_true, qB g3, Int.toNat_natCast]
 have o1 := qLE (g := ([] : List qA)) (u := yH nodes (root + 1) ((List.replicate nodes.length false).set root true)) hn (by rw [qCP]; simp) hl nodes [] (List.replicate nodes.length 0) [] rfl (by simp) (fun w hw => (List.mem_replicate.1 hw).2) hk (by simp) (fun n o => R (n + 1))
 rw [List.nil_append] at o1
 exact o1.trans (Ev.s1 R _)
theorem qAI {a b c d e : Int} {w k : List Int} (hw : w.length <= 1099511627776) (hk : k.length <= 1099511627776) (R : Nat -> Int -> Int -> Int -> Int -> Int -> List Int -> List Int -> Prop) :
  Ev (fun n => Z74.c n a b c d e w k (R n)) ↔ Ev (fun n => R n a b c d e w k) := by
 refine Ev.suc.trans ?_
 simp (disch := (simp only [List.length_nil]; omega)) only [Z74.c, Z74.w, Ev.andI, jT, and_self, List.nil_append]
 exact Ev.s7 R _ _ _ _ _ _ _
theorem qG8 {h i : Int} {b c : List Int} (hbc : b.length = c.length) (hl : b.length <= 1099511627776) : ∀ (ys zs : List Int) (x : Int), b.drop x.toNat = ys -> c.drop x.toNat = zs -> 0 <= x -> ∀ (Kx : Nat -> Prop) (Kr : Nat -> Bool -> Prop),
  (Ev (fun n => Z79.l4 n h b i c x (Kx n) (Kr n)) ↔ if ys = zs then Ev Kx else Ev (fun n => Kr n false))
 | [], zs, x, h1, h2, h0, Kx, Kr => by
  have := qO h1 h0
  have hz : zs = [] := by rw [<- h2]; exact List.drop_eq_nil_of_le (by omega)
  subst hz
  refine Ev.suc.trans ?_
  simp (disch := omega) only [Z79.l4, Z79.l4.b, if_neg, decide_eq_true_eq, if_true]
  exact Ev.s0 Kx
 | y :: ys, zs, x, h1, h2, h0, Kx, Kr => by
  obtain ⟨e1, e2, e3⟩ := qD h1 h0
  match zs, h2 with
  | [], h2 => have := qO h2 h0; omega
  | z :: zs, h2 =>
   obtain ⟨f1, f2, f3⟩ := qD h2 h0
   refine Ev.suc.trans ?_
   simp (disch := omega) only [Z79.l4, Z79.l4.b, if_pos, decide_eq_true_eq, qB, e2, f2, qG, Ev.iteI]
   rw [qG8 hbc hl ys zs (x + 1) e3 f3 (by omega) (fun n => Kx (n + 1)) (fun n => Kr (n + 1)), Ev.s0 Kx, Ev.s1 Kr]
   by_cases hyz : y = z
   ·subst hyz
    simp
   ·simp [hyz]
theorem qGc {a c : Int} {b d : List Int} (hl : b.length <= 1099511627776) (R : Nat -> Bool -> Prop) :
  Ev (fun n => Z79.c n a b c d (R n)) ↔ Ev (fun n => R n (decide (a = c /\ b = d))) := by
 refine Ev.suc.trans ?_
 simp only [Z79.c, Z79.w, Ev.iteI]
 by_cases h1 : a = c
 ·rw [if_pos (by simp [h1])]
  by_cases h2 : b.length = d.length
  ·rw [if_neg (by simp [h2]), qG8 h2 hl b d 0 rfl rfl (by omega) (fun n => R (n + 1) true) (fun n => R (n + 1))]
   by_cases h3 : b = d
   ·rw [if_pos h3, decide_eq_true ⟨h1, h3⟩]; exact Ev.s1 R _
   ·rw [if_neg h3, decide_eq_false (fun hh => h3 hh.2)]; exact Ev.s1 R _
  ·rw [if_pos (by simp; omega), decide_eq_false (fun hh => h2 (by rw [hh.2]))]; exact Ev.s1 R _
 ·rw [if_neg (by simp [h1]), decide_eq_false (fun hh => h1 hh.1)]; exact Ev.s1 R _
theorem qG9 {h i j k l : Int} {m b : List Int} {o p q r s : Int} {t c : List Int} (hbc : b.length = c.length) (hl : b.length <= 1099511627776) : ∀ (ys zs : List Int) (x : Int), b.drop x.toNat = ys -> c.drop x.toNat = zs -> 0 <= x -> ∀ (Kx : Nat -> Prop) (Kr : Nat -> Bool -> Prop),
  (Ev (fun n => Z80.l4 n h i j k l m b o p q r s t c x (Kx n) (Kr n)) ↔ if ys = zs then Ev Kx else Ev (fun n => Kr n false))
 | [], zs, x, h1, h2, h0, Kx, Kr => by
  have := qO h1 h0
  have hz : zs = [] := by rw [<- h2]; exact List.drop_eq_nil_of_le (by omega)
  subst hz
  refine Ev.suc.trans ?_
  simp (disch := omega) only [Z80.l4, Z80.l4.b, if_neg, decide_eq_true_eq, if_true]
  exact Ev.s0 Kx
 | y :: ys, zs, x, h1, h2, h0, Kx, Kr => by
  obtain ⟨e1, e2, e3⟩ := qD h1 h0
  match zs, h2 with
  | [], h2 => have := qO h2 h0; omega
  | z :: zs, h2 =>
   obtain ⟨f1, f2, f3⟩ := qD h2 h0
   refine Ev.suc.trans ?_
   simp (disch := omega) only [Z80.l4, Z80.l4.b, if_pos, decide_eq_true_eq, qB, e2, f2, qG, Ev.iteI]
   rw [qG9 hbc hl ys zs (x + 1) e3 f3 (by omega) (fun n => Kx (n + 1)) (fun n => Kr (n + 1)), Ev.s0 Kx, Ev.s1 Kr]
   by_cases hyz : y = z
   ·subst hyz
    simp
   ·simp [hyz]
theorem qGb {x y : qA} (hl : x.2.2.2.2.2.1.length <= 1099511627776) (hk : x.2.2.2.2.2.2.length <= 1099511627776) (R : Nat -> Bool -> Prop) :
  Ev (fun n => Z80.c n x.1 x.2.1 x.2.2.1 x.2.2.2.1 x.2.2.2.2.1 x.2.2.2.2.2.1 x.2.2.2.2.2.2 y.1 y.2.1 y.2.2.1 y.2.2.2.1 y.2.2.2.2.1 y.2.2.2.2.2.1 y.2.2.2.2.2.2 (R n)) ↔ Ev (fun n => R n (decide (x = y))) := by
 obtain ⟨b, c, d, e, f, g, h⟩ := x
 obtain ⟨i, j, k, l, m, o, p⟩ := y
 have no : ((b, c, d, e, f, g, h) : qA) ≠ (i, j, k, l, m, o, p) -> (Ev (fun n => R (n + 1) false) ↔ Ev (fun n => R n (decide (((b, c, d, e, f, g, h) : qA) = (i, j, k, l, m, o, p))))) := fun hne => by
  rw [decide_eq_false hne]; exact Ev.s1 R _
 refine Ev.suc.trans ?_
 simp only [Z80.c, Z80.w]
 simp only [Ev.iteI]
 by_cases h1 : b = i
 ·rw [if_pos (by simp [h1])]
  by_cases h2 : c = j
  ·rw [if_pos (by simp [h2])]
   by_cases h3 : d = k
   ·rw [if_pos (by simp [h3])]
    by_cases h4 : e = l
    ·rw [if_pos (by simp [h4])]
     rw [qGc hl (fun n r => if (!r) = false then (if (!(decide ((h.length : Int) = (p.length : Int)))) = true then R (n + 1) false else Z80.l4 n b c d e f g h i j k l m o p 0 (R (n + 1) true) (R (n + 1))) else R (n + 1) false)]
     simp only [Ev.iteI]
     by_cases h5 : f = m /\ g = o
     ·rw [if_pos (by simp [h5])]
      by_cases h6 : h.length = p.length
      ·rw [if_neg (by simp [h6]), qG9 h6 hk h p 0 rfl rfl (by omega) (fun n => R (n + 1) true) (fun n => R (n + 1))]
       by_cases h7 : h = p
       ·rw [if_pos h7, decide_eq_true (by rw [h1, h2, h3, h4, h5.1, h5.2, h7])]; exact Ev.s1 R _
       ·rw [if_neg h7]; exact no fun hh => h7 (by simp only [Prod.mk.injEq] at hh; exact hh.2.2.2.2.2.2)
      ·rw [if_pos (by simp; omega)]; exact no fun hh => h6 (by simp only [Prod.mk.injEq] at hh; rw [hh.2.2.2.2.2.2])
     ·rw [if_neg (by simpa using h5)]; exact no fun hh => h5 (by simp only [Prod.mk.injEq] at hh; exact ⟨hh.2.2.2.2.1, hh.2.2.2.2.2.1⟩)
    ·rw [if_neg (by simp [h4])]; exact no fun hh => h4 (by simp only [Prod.mk.injEq] at hh; exact hh.2.2.2.1)
   ·rw [if_neg (by simp [h3])]; exact no fun hh => h3 (by simp only [Prod.mk.injEq] at hh; exact hh.2.2.1)
  ·rw [if_neg (by simp [h2])]; exact no fun hh => h2 (by simp only [Prod.mk.injEq] at hh; exact hh.2.1)
 ·rw [if_neg (by simp [h1])]; exact no fun hh => h1 (by simp only [Prod.mk.injEq] at hh; exact hh.1)
theorem qFr {d : List qA} {e : Int} {c f : List Int} {g h : List qA} {i j k l m : Int} {N : Nat} (hN : N <= 4096) : ∀ (ys done : List Int), done.length + ys.length = N -> jF c.length ys = true ->
  ∀ Kx : Nat -> List qA -> Int -> List Int -> List Int -> List Int -> List qA -> List qA -> Int -> Int -> Int -> Int -> Int -> Prop,
  (Ev (fun n => Z81.l8 n d e c f g h i j k l m done.length (done ++ ys) (Kx n)) ↔ Ev (fun n => Kx n d e c f (done ++ ys.map fun k => rd c k.toNat) g h i j k l m))
 | [], done, hN', hk, Kx => by
  refine Ev.suc.trans ?_
  simp only [List.length_nil, Nat.add_zero] at hN'
  have el : (done ++ ([] : List Int)).length = done.length := by simp
  simp (disch := omega) only [Z81.l8, Z81.l8.b, if_neg, decide_eq_true_eq, List.map_nil, el]
  exact Ev.s0 fun n => Kx n d e c f (done ++ []) g h i j k l m
 | y :: ys, done, hN', hk, Kx => by
  rw [jW] at hk
  rw [List.length_cons] at hN'
  have el : (done ++ y :: ys).length = done.length + (ys.length + 1) := by simp
  have er : rd (done ++ y :: ys) done.length = y := qDx
  have es : ∀ w : Int, (done ++ y :: ys).set done.length w = (done ++ [w]) ++ ys := fun w => by
   rw [List.set_append_right _ _ (Nat.le_refl _), Nat.sub_self, List.set_cons_zero]; simp
  refine Ev.suc.trans ?_
  simp (disch := omega) only [Z81.l8, Z81.l8.b, if_pos, decide_eq_true_eq, qB, Int.toNat_natCast, er, qG, el, es]
  have := qFr (d := d) (e := e) (c := c) (f := f) (g := g) (h := h) (i := i) (j := j) (k := k) (l := l) (m := m) hN ys (done ++ [rd c y.toNat]) (by simp; omega) hk.2 (fun n => Kx (n + 1))
  rw [show ((done ++ [rd c y.toNat]).length : Int) = (done.length : Int) + 1 from by simp] at this
  rw [this, List.append_assoc, List.singleton_append, List.map_cons]
  exact Ev.s0 fun n => Kx n d e c f (done ++ rd c y.toNat :: ys.map fun k => rd c k.toNat) g h i j k l m
theorem qJU {t : List qA} {idx : Int} {to : List Int} {G out : List qA} {x : qA} (ho : out.length <= 1000000) (hw : ∀ y ∈ out, y.2.2.2.2.2.1.length <= 1099511627776 /\ y.2.2.2.2.2.2.length <= 1099511627776) : ∀ (ys : List qA) (c : Int), out.drop c.toNat = ys -> 0 <= c ->
  ∀ Kx : Nat -> List qA -> Int -> Int -> List Int -> List Int -> List Int -> List qA -> List qA -> Int -> Int -> Int -> Int -> Int -> Prop,
  (Ev (fun n => Z81.l13 n t idx to x.2.2.2.2.2.1 x.2.2.2.2.2.2 G out x.1 x.2.1 x.2.2.1 x.2.2.2.1 x.2.2.2.2.1 (-1) c (Kx n)) ↔
   Ev (fun n => Kx n t idx (qR (fun y => decide (y = x)) ys c) to x.2.2.2.2.2.1 x.2.2.2.2.2.2 G out x.1 x.2.1 x.2.2.1 x.2.2.2.1 x.2.2.2.2.1))
 | [], c, h, h0, Kx => by
  have := qO h h0
  refine Ev.suc.trans ?_
  simp (disch := omega) only [Z81.l13, Z81.l13.b, if_neg, decide_eq_true_eq, Z81.j3, Bool.false_eq_true, if_false, qR]
  exact Ev.s0 fun n => Kx n t idx (-1) to x.2.2.2.2.2.1 x.2.2.2.2.2.2 G out x.1 x.2.1 x.2.2.1 x.2.2.2.1 x.2.2.2.2.1
 | y :: ys, c, h, h0, Kx => by
  obtain ⟨e1, e2, e3⟩ := qD h h0
  have hy : y ∈ out := by
   have : y ∈ out.drop c.toNat := by rw [h]; exact List.mem_cons_self
   exact List.mem_of_mem_drop this
  have hd : decide ((-1 : Int) < 0) = true := by decide
  have g1 : 0 <= c /\ c < (out.length : Int) := ⟨h0, e1⟩
  refine Ev.suc.trans ?_
  simp only [Z81.l13, Z81.l13.b, Z81.j3, Z81.j2, hd, if_true, e2, qB g1]
  rw [Ev.iteI, if_pos (by simpa using e1), qG (x := c + 1) (by omega) (by omega)]
  rw [qGb (hw y hy).1 (hw y hy).2 (fun n l => if l = true then Z81.l13 n t idx to x.2.2.2.2.2.1 x.2.2.2.2.2.2 G out x.1 x.2.1 x.2.2.1 x.2.2.2.1 x.2.2.2.2.1 c (c + 1) (Kx (n + 1)) else Z81.l13 n t idx to x.2.2.2.2.2.1 x.2.2.2.2.2.2 G out x.1 x.2.1 x.2.2.1 x.2.2.2.1 x.2.2.2.2.1 (-1) (c + 1) (Kx (n + 1)))]
  rw [qR]
  by_cases he : decide (y = x) = true
  ·simp only [he, if_true]
   refine Ev.suc.trans ?_
   have hc : decide (c < 0) = false := decide_eq_false (by omega)
   simp only [Z81.l13, Z81.l13.b, Z81.j3, hc, Bool.false_eq_true, if_false, ite_self]
   exact (Ev.s0 fun n => Kx (n + 1) t idx c to x.2.2.2.2.2.1 x.2.2.2.2.2.2 G out x.1 x.2.1 x.2.2.1 x.2.2.2.1 x.2.2.2.2.1).trans (Ev.s0 fun n => Kx n t idx c to x.2.2.2.2.2.1 x.2.2.2.2.2.2 G out x.1 x.2.1 x.2.2.1 x.2.2.2.1 x.2.2.2.2.1)
  ·simp only [he, Bool.false_eq_true, if_false]
   rw [qJU ho hw ys (c + 1) e3 (by omega) (fun n => Kx (n + 1))]
   exact Ev.s0 fun n => Kx n t idx (qR (fun y => decide (y = x)) ys (c + 1)) to x.2.2.2.2.2.1 x.2.2.2.2.2.2 G out x.1 x.2.1 x.2.2.1 x.2.2.2.1 x.2.2.2.2.1
def qDi (y : qA) : Prop := y.2.2.2.2.2.1.length <= 1099511627776 /\ y.2.2.2.2.2.2.length <= 4096
theorem qE7 {t G : List qA} (ht : t.length <= 1000) : ∀ (ys : List qA) (to : List Int) (out : List qA), t.drop to.length = ys -> (∀ y ∈ ys, qDi y) -> (∀ y ∈ out, qDi y) -> jH to.length ys -> out.length + ys.length <= 1000 -> to.length + ys.length <= 1000 ->
  ∀ Kx : Nat -> List Int -> List qA -> List qA -> Prop,
  (Ev (fun n => Z81.l4 n t to.length to G out (Kx n)) ↔ Ev (fun n => Kx n (qE ys to out).1 G (qE ys to out).2))
 | [], to, out, h, hy, ho, hk, hl, hl2, Kx => by
  have hle := List.drop_eq_nil_iff.1 h
  refine Ev.suc.trans ?_
  simp (disch := omega) only [Z81.l4, Z81.l4.b, if_neg, decide_eq_true_eq, qE]
  exact Ev.s3 Kx _ _ _
 | x :: ys, to, out, h, hy, ho, hk, hl, hl2, Kx => by
  have h' : t.drop (to.length : Int).toNat = x :: ys := h
  obtain ⟨e1, e2, e3⟩ := qD h' (by omega)
  have e2' : rd t to.length = x := e2
  obtain ⟨hxw, hxk⟩ := hy x List.mem_cons_self
  rw [List.length_cons] at hl hl2
  have ew : IntKind.wrap .i64 ((to.length : Int) + 1) = ((to.length + 1 : Nat) : Int) := by rw [qG (by omega) (by omega)]; simp
  have hkm : qDi (zT to x) := ⟨hxw, by show (List.map _ _).length <= 4096; rw [List.length_map]; exact hxk⟩
  have nxt : ∀ (u : Int) (out' : List qA), (∀ y ∈ out', qDi y) -> out'.length <= out.length + 1 -> ∀ Kx : Nat -> List Int -> List qA -> List qA -> Prop, ((Ev fun n => Z81.l4 n t (IntKind.wrap .i64 ((to.length : Int) + 1)) (to ++ [u]) G out' (Kx n)) ↔ Ev fun n => Kx n (qE ys (to ++ [u]) out').1 G (qE ys (to ++ [u]) out').2) := fun u out' ho' hl' Kx => by
   have := qE7 (G := G) ht ys (to ++ [u]) out' (by rw [<- e3, List.length_append]; rfl) (fun y hy' => hy y (List.mem_cons_of_mem _ hy')) ho' (by rw [List.length_append]; exact hk.2) (by omega) (by simp; omega) Kx
   rw [ew]
   rw [List.length_append] at this
   exact this
  refine Ev.suc.trans ?_
  simp (disch := omega) only [Z81.l4, Z81.l4.b, if_pos, decide_eq_true_eq, qB, Int.toNat_natCast, e2']
  refine (qAI hxw (by omega) _).trans ?_
  have kb := qFr (d := t) (e := to.length) (c := to) (f := x.2.2.2.2.2.1) (g := G) (h := out) (i := x.1) (j := x.2.1) (k := x.2.2.1) (l := x.2.2.2.1) (m := x.2.2.2.2.1) hxk x.2.2.2.2.2.2 [] (by simp) hk.1
  rw [List.nil_append, List.nil_append] at kb
  refine (kb _).trans ?_
  have fd := qJU (t := t) (idx := to.length) (to := to) (G := G) (out := out) (x := zT to x) (by omega) (fun y hy' => ⟨(ho y hy').1, Nat.le_trans (ho y hy').2 (by decide)⟩) out 0 rfl (by omega)
  refine (fd _).trans ?_
  have g1 : ∀ y : qA, out.length + ([y] : List qA).length <= 790660046940 := fun y => by simp only [List.length_cons, List.length_nil]; omega
  have g2 : ∀ u : Int, to.length + ([u] : List Int).length <= 7818749353073 := fun u => by simp only [List.length_cons, List.length_nil]; omega
  simp only [Ev.iteI, decide_eq_true_eq, jT (g1 _), jT (g2 _)]
  rw [qE, show qR (fun y => decide (y = zT to x)) out 0 = ixA (zT to x) out from rfl]
  unfold yL
  by_cases hi : ixA (zT to x) out < 0
  ·rw [if_pos hi, if_pos hi]
   rw [nxt (out.length : Int) (out ++ [zT to x]) (fun y hy' => by rcases List.mem_append.1 hy' with hy' | hy'; exact ho y hy'; rw [List.mem_singleton] at hy'; rw [hy']; exact hkm) (by simp) (fun n => Kx (n + 1))]
   exact Ev.s3 Kx _ _ _
  ·rw [if_neg hi, if_neg hi]
   rw [nxt _ out ho (by omega) (fun n => Kx (n + 1))]
   exact Ev.s3 Kx _ _ _
theorem qIm {t : List qA} (ht : t.length <= 1000) (hy : ∀ y ∈ t, qDi y) (hk : jH 0 t) (R : Nat -> List qA -> List Int -> Prop) :
  Ev (fun n => Z81.c n t (R n)) ↔ Ev (fun n => R n (qE t [] []).2 (qE t [] []).1) := by
 refine Ev.suc.trans ?_
 simp only [Z81.c, Z81.w]
 have := qE7 (G := ([] : List qA)) (t := t) (by omega) t [] [] rfl hy (fun _ h => by cases h) hk (by simp; omega) (by simp; omega) (fun n e g f => R (n + 1) f e)
 exact this.trans (Ev.s2 R _ _)
theorem vF : ∀ {ks : List Int} {u : List Bool} {i : Nat}, rd u i = true -> rd (zS u ks) i = true
 | [], u, i, h => h
 | k :: ks, u, i, h => by
  rw [zS]
  refine vF ?_
  by_cases e : k.toNat = i
  ·subst e
   have hl : k.toNat < u.length := by
    rcases Nat.lt_or_ge k.toNat u.length with h' | h'
    ·exact h'
    ·rw [rd, List.getD_eq_getElem?_getD, List.getElem?_eq_none h'] at h; cases h
   exact qA1 hl
  ·rw [rd, List.getD_eq_getElem?_getD, List.getElem?_set, if_neg e, <- List.getD_eq_getElem?_getD]; exact h
theorem qBw : ∀ {ks : List Int} {u : List Bool} {k : Int}, k ∈ ks -> k.toNat < u.length -> rd (zS u ks) k.toNat = true
 | [], _, _, h, _ => by cases h
 | y :: ks, u, k, h, hl => by
  rw [zS]
  rcases List.mem_cons.1 h with rfl | h
  ·exact vF (qA1 hl)
  ·exact qBw h (by rw [List.length_set]; exact hl)
theorem qAC : ∀ {ks : List Int} {u : List Bool} {i : Nat}, rd (zS u ks) i = true -> rd u i = true \/ ∃ k ∈ ks, k.toNat = i
 | [], u, i, h => .inl h
 | k :: ks, u, i, h => by
  rw [zS] at h
  rcases qAC h with h | ⟨k', h1, h2⟩
  ·by_cases e : k.toNat = i
   ·exact .inr ⟨k, List.mem_cons_self, e⟩
   ·left
    rw [rd, List.getD_eq_getElem?_getD, List.getElem?_set, if_neg e, <- List.getD_eq_getElem?_getD] at h
    exact h
  ·exact .inr ⟨k', List.mem_cons_of_mem _ h1, h2⟩
theorem qES {d : List qQ} : ∀ {ys : List qA} {wide : List Int} {used : List Bool} {r : List Int × List Bool} {i : Nat}, jI d ys wide used = some r -> rd r.2 i = true -> rd used i = true \/ ∃ j, j < ys.length /\ ∃ k ∈ (rd ys j).2.2.2.2.2.2, k.toNat = i
 | [], wide, used, r, i, h, hu => by rw [jI] at h; cases h; exact .inl hu
 | x :: ys, wide, used, r, i, h, hu => by
  rw [jI] at h
  cases hs : kX d x wide with
  | none => rw [hs] at h; cases h
  | some w =>
   rw [hs] at h
   rcases qES h hu with h1 | ⟨j, h1, h2⟩
   ·rcases qAC h1 with h1 | h1
    ·exact .inl h1
    ·exact .inr ⟨0, by simp, h1⟩
   ·exact .inr ⟨j + 1, by simpa using h1, h2⟩
theorem jR {m : Int} {ks : List Int} (h : jF m ks = true) {k : Int} (hk : k ∈ ks) : 0 <= k /\ k <= m - 1 := by
 unfold jF at h
 rw [List.all_eq_true] at h
 exact of_decide_eq_true (h k hk)
theorem qHj {a : List qA} (hk : jH 0 a) : ∀ (m : Nat) (u : List Bool), u.length = a.length -> m <= a.length -> (∀ p, m <= p -> p < a.length -> rd u p = true) ->
  (∀ p, p < m -> rd u p = true \/ ∃ q, q < m /\ ∃ k ∈ (rd a q).2.2.2.2.2.2, k.toNat = p) -> ∀ p, p < a.length -> rd (yH a m u) p = true
 | 0, u, hu, hm, h1, h2, p, hp => h1 p (Nat.zero_le _) hp
 | m + 1, u, hu, hm, h1, h2, p, hp => by
  have hkm := wX (i := 0) (j := m) hk (by omega)
  have hmm : rd u m = true := by
   rcases h2 m (by omega) with h | ⟨q, hq, k, hk', e⟩
   ·exact h
   ·have := jR (wX (i := 0) (j := q) hk (by omega)) hk'
    omega
  rw [yH, if_pos hmm]
  refine qHj hk m _ (by rw [vG]; exact hu) (by omega) (fun p' hp' hl => ?_) (fun p' hp' => ?_) p hp
  ·by_cases e : p' = m
   ·rw [e]; exact vF hmm
   ·exact vF (h1 p' (by omega) hl)
  ·rcases h2 p' (by omega) with h | ⟨q, hq, k, hk', e⟩
   ·exact .inl (vF h)
   ·by_cases eq : q = m
    ·subst eq
     refine .inl ?_
     rw [<- e]
     exact qBw hk' (by rw [e]; omega)
    ·exact .inr ⟨q, by omega, k, hk', e⟩
theorem qJE {to : List Int} {x : qA} (h : ∀ k ∈ x.2.2.2.2.2.2, rd to k.toNat = k) : zT to x = x := by
 unfold zT
 rw [show (x.2.2.2.2.2.2.map fun k => rd to k.toNat) = x.2.2.2.2.2.2 from by
  conv => rhs; rw [<- List.map_id x.2.2.2.2.2.2]
  exact List.map_congr_left h]
theorem jD {α : Type} [Inhabited α] {a : List α} {v : α} {k : Nat} : rd (a ++ [v]) k = if k = a.length then v else rd a k := by
 by_cases h : k = a.length
 ·rw [if_pos h, h]; exact qDx
 ·rw [if_neg h]
  rcases Nat.lt_or_ge k a.length with h1 | h1
  ·exact qBS h1
  ·rw [rd, rd, List.getD_eq_getElem?_getD, List.getD_eq_getElem?_getD, List.getElem?_eq_none (by simp; omega), List.getElem?_eq_none h1]
theorem qJl {u : List Bool} {n : Nat} (hu : ∀ p, p < n -> rd u p = true) : ∀ (ys : List qA) (to : List Int) (out : List qA), to.length + ys.length = n -> to.length = out.length -> (∀ j, j < to.length -> rd to j = (j : Int)) -> jH to.length ys -> yN u ys to out = out ++ ys
 | [], to, out, _, _, _, _ => by rw [yN, List.append_nil]
 | x :: ys, to, out, hn, ho, ht, hk => by
  rw [List.length_cons] at hn
  rw [yN, if_pos (hu _ (by omega))]
  have e : zT to x = x := qJE fun k hk' => by
   have := jR hk.1 hk'
   rw [ht k.toNat (by omega)]; omega
  rw [e, qJl hu ys (to ++ [(out.length : Int)]) (out ++ [x]) (by simp; omega) (by simp; omega) (fun j hj => by
   rw [jD]
   split
   ·omega
   ·exact ht j (by simp at hj; omega)) (by rw [List.length_append]; exact hk.2)]
  simp
theorem qA2 {a : List qA} (hk : jH 0 a) (h0 : 0 < a.length) (hl : ∀ p, p < a.length - 1 -> ∃ q, q < a.length /\ ∃ k ∈ (rd a q).2.2.2.2.2.2, k.toNat = p) : vM a (a.length - 1) = a := by
 unfold vM
 rw [show a.length - 1 + 1 = a.length from by omega]
 have hm : rd ((List.replicate a.length false).set (a.length - 1) true) (a.length - 1) = true := qA1 (by simp; omega)
 have := qHj hk a.length ((List.replicate a.length false).set (a.length - 1) true) (by simp) (Nat.le_refl _) (fun p h1 h2 => by omega) (fun p hp => by
  by_cases e : p = a.length - 1
  ·rw [e]; exact .inl hm
  ·exact .inr (hl p (by omega)))
 have h2 := qJl this a [] [] (by simp) rfl (fun j hj => by simp at hj) hk
 rw [h2, List.nil_append]
structure SI (t : List qA) (to : List Int) (a : List qA) : Prop where
 tk : jH 0 t
 len : to.length = t.length
 at_ : ∀ i, i < t.length -> 0 <= rd to i /\ rd to i < (a.length : Int) /\ rd a (rd to i).toNat = zT to (rd t i)
 hit : ∀ p, p < a.length -> ∃ i, i < t.length /\ rd to i = (p : Int)
 kids : jH 0 a
theorem yR : ∀ {a b : List qA} {i : Nat}, jH i a -> jH (i + a.length) b -> jH i (a ++ b)
 | [], b, i, _, h => h
 | x :: a, b, i, h1, h2 => ⟨h1.1, yR h1.2 (by rw [List.length_cons] at h2; rw [show i + 1 + a.length = i + (a.length + 1) from by omega]; exact h2)⟩
theorem qNM {x : qA} : ∀ {a : List qA} {i : Int}, 0 <= i -> 0 <= qR (fun y => decide (y = x)) a i -> i <= qR (fun y => decide (y = x)) a i /\ rd a (qR (fun y => decide (y = x)) a i - i).toNat = x
 | [], i, _, h => by simp [qR] at h
 | y :: a, i, h0, h => by
  by_cases e : y = x
  ·rw [show qR (fun y => decide (y = x)) (y :: a) i = i from by simp [qR, e]]
   exact ⟨Int.le_refl _, by rw [Int.sub_self, e]; rfl⟩
  ·have e2 : qR (fun y => decide (y = x)) (y :: a) i = qR (fun y => decide (y = x)) a (i + 1) := by simp [qR, e]
   rw [e2] at h ⊢
   obtain ⟨h1, h2⟩ := qNM (by omega) h
   refine ⟨by omega, ?_⟩
   rw [show (qR (fun y => decide (y = x)) a (i + 1) - i).toNat = (qR (fun y => decide (y = x)) a (i + 1) - (i + 1)).toNat + 1 from by omega]
   exact h2
theorem qM4 {x : qA} {a : List qA} : rd (yL x a).2 (yL x a).1.toNat = x := by
 unfold yL
 split
 ·simp only [Int.toNat_natCast]; exact qDx
 ·rename_i h
  have := (qNM (x := x) (a := a) (i := 0) (by omega) (by unfold ixA at h; omega)).2
  rw [Int.sub_zero] at this
  exact this
theorem qLv {x : qA} {a : List qA} {p : Nat} (hp : p < a.length) : rd (yL x a).2 p = rd a p := by
 unfold yL
 split
 ·exact qBS hp
 ·rfl
theorem qA8 {to : List Int} {v : Int} {x : qA} (h : jF to.length x.2.2.2.2.2.2 = true) : zT (to ++ [v]) x = zT to x := by
 unfold zT
 rw [show (x.2.2.2.2.2.2.map fun k => rd (to ++ [v]) k.toNat) = x.2.2.2.2.2.2.map fun k => rd to k.toNat from List.map_congr_left fun k hk => qBS (by have := jR h hk; omega)]
theorem SI.step {t : List qA} {to : List Int} {a : List qA} (h : SI t to a) {x : qA} (hx : jF t.length x.2.2.2.2.2.2 = true) : SI (t ++ [x]) (to ++ [(yL (zT to x) a).1]) (yL (zT to x) a).2 := by
 obtain ⟨h1, h2, h3, h4, h5⟩ := h
 obtain ⟨q1, q2, q3, q4⟩ := qEF (x := zT to x) (a := a)
 refine ⟨yR h1 ⟨by simpa using hx, trivial⟩, by simp [h2], fun i hi => ?_, fun p hp => ?_, ?_⟩
 ·rw [jD, jD, h2]
  by_cases e : i = t.length
  ·rw [if_pos e, if_pos e]
   exact ⟨q1, q2, by rw [qM4, qA8 (by rw [h2]; exact hx)]⟩
  ·rw [if_neg e, if_neg e]
   have hi' : i < t.length := by simp at hi; omega
   obtain ⟨a1, a2, a3⟩ := h3 i hi'
   exact ⟨a1, by omega, by rw [qLv (by omega), a3, qA8 (yQ (wX (i := 0) h1 hi') (by omega))]⟩
 ·by_cases e : p < a.length
  ·obtain ⟨i, i1, i2⟩ := h4 p e
   exact ⟨i, by simp; omega, by rw [jD, if_neg (by omega)]; exact i2⟩
  ·refine ⟨t.length, by simp, ?_⟩
   rw [jD, if_pos h2.symm]
   unfold yL at hp ⊢
   split
   ·rename_i hi; rw [if_pos hi] at hp; simp at hp ⊢; omega
   ·rename_i hi; rw [if_neg hi] at hp; exact absurd hp e
 ·unfold yL
  split
  ·refine yR h5 ⟨?_, trivial⟩
   unfold jF
   rw [List.all_eq_true]
   intro k hk
   obtain ⟨j, hj, rfl⟩ := List.mem_map.1 hk
   have := jR hx hj
   have := h3 j.toNat (by omega)
   exact decide_eq_true (by simp; omega)
  ·exact h5
theorem SI.go : ∀ {ys t : List qA} {to : List Int} {a : List qA}, SI t to a -> jH t.length ys -> SI (t ++ ys) (qE ys to a).1 (qE ys to a).2
 | [], t, to, a, h, _ => by rw [qE, List.append_nil]; exact h
 | x :: ys, t, to, a, h, hk => by
  rw [qE, show t ++ x :: ys = (t ++ [x]) ++ ys from by simp]
  exact SI.go (h.step hk.1) (by rw [List.length_append]; exact hk.2)
theorem SI.of {t : List qA} (hk : jH 0 t) : SI t (qE t [] []).1 (qE t [] []).2 := by
 have := SI.go (ys := t) (t := []) (to := []) (a := []) ⟨trivial, rfl, fun i hi => by simp at hi, fun p hp => by simp at hp, trivial⟩ hk
 rwa [List.nil_append] at this
theorem SI.kid {t : List qA} {to : List Int} {a : List qA} (h : SI t to a) {i j : Nat} (hj : j < t.length) {k : Int} (hk : k ∈ (rd t j).2.2.2.2.2.2) (hi : k.toNat = i) : i < t.length /\ rd to i ∈ (rd a (rd to j).toNat).2.2.2.2.2.2 /\ rd to i < rd to j := by
 obtain ⟨a1, a2, a3⟩ := h.at_ j hj
 have hm := jR (wX (i := 0) h.tk hj) hk
 have hmem : rd to i ∈ (rd a (rd to j).toNat).2.2.2.2.2.2 := by
  rw [a3]
  show rd to i ∈ List.map _ _
  exact List.mem_map.2 ⟨k, hk, by rw [hi]⟩
 have := jR (wX (i := 0) (j := (rd to j).toNat) h.kids (by omega)) hmem
 exact ⟨by omega, hmem, by omega⟩
theorem SI.last {t : List qA} {to : List Int} {a : List qA} (h : SI t to a) (h0 : 0 < t.length) (hu : ∀ i, i < t.length - 1 -> ∃ j, j < t.length /\ ∃ k ∈ (rd t j).2.2.2.2.2.2, k.toNat = i) :
  rd to (t.length - 1) = (a.length : Int) - 1 /\ 0 < a.length /\ ∀ p, p < a.length - 1 -> ∃ q, q < a.length /\ ∃ k ∈ (rd a q).2.2.2.2.2.2, k.toNat = p := by
 have up : ∀ (d i : Nat), t.length - 1 - i = d -> i <= t.length - 1 -> rd to i <= rd to (t.length - 1) := by
  intro d
  induction d using Nat.strongRecOn with
  | _ d ih =>
   intro i hd hi
   by_cases e : i = t.length - 1
   ·rw [e]; exact Int.le_refl _
   ·obtain ⟨j, hj, k, hk, e2⟩ := hu i (by omega)
    have hm := jR (wX (i := 0) h.tk hj) hk
    have := (h.kid hj hk e2).2.2
    have := ih (t.length - 1 - j) (by omega) j rfl (by omega)
    omega
 have hlast := h.at_ (t.length - 1) (by omega)
 have ha : 0 < a.length := by omega
 have e1 : rd to (t.length - 1) = (a.length : Int) - 1 := by
  obtain ⟨i, hi, e⟩ := h.hit (a.length - 1) (by omega)
  have := up _ i rfl (by omega)
  omega
 refine ⟨e1, ha, fun p hp => ?_⟩
 obtain ⟨i, hi, e⟩ := h.hit p (by omega)
 have hne : i ≠ t.length - 1 := by rintro rfl; omega
 obtain ⟨j, hj, k, hk, e2⟩ := hu i (by omega)
 obtain ⟨_, r1, r2⟩ := h.kid hj hk e2
 have := h.at_ j hj
 exact ⟨(rd to j).toNat, by omega, rd to i, r1, by omega⟩
theorem wD {d : List qQ} {t : List qA} (h : ¬ yM d t < 0) : ∀ i, i < t.length - 1 -> ∃ j, j < t.length /\ ∃ k ∈ (rd t j).2.2.2.2.2.2, k.toNat = i := by
 have h2 := (vK h).1
 unfold zN at h2
 split at h2
 ·cases hg : jI d t [] (List.replicate t.length false) with
  | none => rw [hg] at h2; cases h2
  | some r =>
   rw [hg] at h2
   simp only at h2
   intro i hi
   have hlen := (kJ (fun w hw => by cases hw) hg).2.2
   rw [List.length_replicate] at hlen
   have hr : rd r.2 i = true := by
    rw [List.all_eq_true] at h2
    have hm : rd r.2 i ∈ r.2.take (t.length - 1) := by
     rw [rd, List.getD_eq_getElem?_getD, List.getElem?_eq_getElem (by omega), Option.getD_some]
     exact List.mem_take_iff_getElem.2 ⟨i, by omega, rfl⟩
    have := h2 _ hm
    simpa using this
   rcases qES hg hr with h3 | h3
   ·rw [rd, List.getD_eq_getElem?_getD, List.getElem?_replicate] at h3
    split at h3 <;> cases h3
   ·exact h3
 ·cases h2
theorem qCw {d : List qQ} : ∀ {ys : List qA} {wide : List Int} {used : List Bool} {r : List Int × List Bool}, WOk wide -> jI d ys wide used = some r -> ∀ x ∈ ys, ∃ (wide' : List Int) (w : Int), WOk wide' /\ wide'.length <= wide.length + ys.length /\ kX d x wide' = some w
 | [], _, _, _, _, _, x, hx => by cases hx
 | y :: ys, wide, used, r, hw, h, x, hx => by
  rw [jI] at h
  cases hs : kX d y wide with
  | none => rw [hs] at h; cases h
  | some w =>
   rw [hs] at h
   rcases List.mem_cons.1 hx with rfl | hx
   ·exact ⟨wide, w, hw, by omega, hs⟩
   ·obtain ⟨w', v, h1, h2, h3⟩ := qCw (hw.app (qG6 hs)) h x hx
    exact ⟨w', v, h1, by simp at h2 ⊢; omega, h3⟩
theorem qNu {d : List qQ} {x : qA} {wide : List Int} {w : Int} (hd : d.length <= 60) (hl : wide.length <= 1000) (hw : WOk wide) (hx : Wd x.2.2.2.2.2.1) (h : kX d x wide = some w) : kZ x := by
 obtain ⟨⟨hk, hkl⟩, hcase⟩ := qIZ hw h
 unfold kX at h
 split at h
 ·rename_i hc
  obtain ⟨_, hp, hkb⟩ := hc
  rw [vZ, decide_eq_true_eq] at hp
  rw [kY, decide_eq_true_eq] at hkb
  obtain ⟨p1, p2, p3, p4⟩ := hp
  refine ⟨?_, ?_, ?_, ?_, hx, fun k hk' => ?_, hkl, ?_⟩
  ·unfold Sm; rcases hcase with h1 | h1 | h1 <;> omega
  ·unfold Sm; rcases hcase with h1 | h1 | h1 <;> omega
  ·unfold Sm; rcases hcase with h1 | h1 | h1 <;> omega
  ·unfold Sm; rcases hcase with h1 | h1 | h1 <;> omega
  ·have := jR hk hk'
   exact ⟨this.1, by omega⟩
  ·rcases hkb with h1 | h1 | h1 | h1
   ·rcases p4 with p4 | p4
    ·omega
    ·exact .inr ⟨p4.1, List.eq_nil_of_length_eq_zero p4.2⟩
   ·exact .inl h1.2.2
   ·rcases p4 with p4 | p4
    ·omega
    ·exact .inr ⟨p4.1, List.eq_nil_of_length_eq_zero p4.2⟩
   ·rcases p4 with p4 | p4
    ·omega
    ·exact .inr ⟨p4.1, List.eq_nil_of_length_eq_zero p4.2⟩
 ·cases h
theorem qCI {d : List qQ} {t : List qA} (h : ¬ yM d t < 0) (hd : d.length <= 60) (hw : ∀ x ∈ t, Wd x.2.2.2.2.2.1) : ∀ x ∈ t, kZ x := by
 obtain ⟨h2, _, hlen, _⟩ := vK h
 unfold zN at h2
 split at h2
 ·cases hg : jI d t [] (List.replicate t.length false) with
  | none => rw [hg] at h2; cases h2
  | some r =>
   intro x hx
   obtain ⟨wide, w, h3, h4, h5⟩ := qCw (fun w hw => by cases hw) hg x hx
   exact qNu hd (by simp at h4; omega) h3 (hw x hx) h5
 ·cases h2
theorem kZ.len {x : qA} (h : kZ x) : qDi x := by
 refine ⟨?_, h.kl⟩
 rcases h.ok with h1 | ⟨_, h1⟩
 ·obtain ⟨ws, e, ho⟩ := yV h.w h1
  rw [e]
  have := ho.len
  have := ho.hi
  simp [W]; omega
 ·rw [h1]; simp
theorem qJ5 {d : List qQ} (h : vV d = true) : d.length <= 60 := by
 unfold vV at h
 rw [Bool.and_eq_true, decide_eq_true_eq] at h
 exact h.1
theorem qCJ {d : List qQ} {t : List qA} (hS : ∀ x ∈ t, kZ x) : vY (-1) 0 t [] [] = qE t [] [] :=
 qDz fun y hy hh => by have := (hS y hy).v.1; omega
theorem vP : ∀ {ys : List qA} {to : List Int} {a : List qA}, (qE ys to a).2.length <= a.length + ys.length /\ (qE ys to a).1.length = to.length + ys.length
 | [], to, a => by simp [qE]
 | x :: ys, to, a => by
  rw [qE, List.length_cons]
  have := qEF (x := zT to x) (a := a)
  have := vP (ys := ys) (to := to ++ [(yL (zT to x) a).1]) (a := (yL (zT to x) a).2)
  simp only [List.length_append, List.length_cons, List.length_nil] at this
  omega
theorem qCA : ∀ {ys : List qA} {to : List Int} {a : List qA}, (∀ y ∈ ys, kZ y) -> (∀ y ∈ a, kZ y) -> jH to.length ys -> (∀ k ∈ to, Sm k) -> a.length + ys.length <= 1000000 -> ∀ y ∈ (qE ys to a).2, kZ y
 | [], to, a, _, ha, _, _, _ => by rw [qE]; exact ha
 | x :: ys, to, a, hy, ha, hk, ht, hl => by
  rw [List.length_cons] at hl
  have q := qEF (x := zT to x) (a := a)
  have hkm := qLH (hy x List.mem_cons_self) hk.1 ht
  rw [qE]
  exact qCA (fun y hy' => hy y (List.mem_cons_of_mem _ hy')) (fun y hy' => (qEE hy').elim (ha y) fun e => e ▸ hkm) (by rw [List.length_append]; exact hk.2)
   (fun k hk' => by rcases List.mem_append.1 hk' with hk' | hk'; exact ht k hk'; rw [List.mem_singleton] at hk'; rw [hk']; exact ⟨q.1, by omega⟩) (by omega)
theorem qKR {d : List qQ} {t : List qA} (h : ¬ yM d t < 0) (hd : d.length <= 60) (hw : ∀ x ∈ t, Wd x.2.2.2.2.2.1) (R : Nat -> List qA -> Prop) :
  Ev (fun n => Z18.c n t (R n)) ↔ Ev (fun n => R n (qE t [] []).2) := by
 have hS := qCI h hd hw
 obtain ⟨_, h1, h400, hk⟩ := vK h
 have hSI := SI.of hk
 obtain ⟨l1, l2, l3⟩ := hSI.last (by omega) (wD h)
 have hlen := vP (ys := t) (to := []) (a := [])
 have hSa := qCA (ys := t) (to := []) (a := []) hS (fun _ h => by cases h) hk (fun _ h => by cases h) (by simp; omega)
 have ad := fun R => qBL (v := -1) (inst := 0) (t := t) (a := []) ⟨by omega, by omega⟩ (by omega) (fun y hy => ⟨hS y hy, (hS y hy).len.1⟩) hk (fun _ h => by cases h) (by simp) R
 rw [qCJ (d := d) hS] at ad
 simp only [List.length_nil, Nat.zero_add] at hlen
 have fr := fun R => qHI (nodes := (qE t [] []).2) (d := vC (qE t [] []).2 0) (root := (qE t [] []).2.length - 1) (by omega) (by omega) hSI.kids (fun x hx => (hSa x hx).kl) R
 rw [qA2 hSI.kids l2 l3] at fr
 refine Ev.suc.trans ?_
 simp only [Z18.c, Z18.w]
 refine Ev.suc.trans ?_
 simp only [Z17.c, Z17.w]
 have ew : IntKind.wrap .i64 (((qE t [] []).1.length : Int) - 1) = ((t.length - 1 : Nat) : Int) := by rw [hlen.2, qG (by omega) (by omega)]; omega
 have g1 : (0 : Int) <= ((t.length - 1 : Nat) : Int) /\ ((t.length - 1 : Nat) : Int) < ((qE t [] []).1.length : Int) := ⟨by omega, by rw [hlen.2]; omega⟩
 have ad2 := ad (fun n a e f => grd (decide (0 <= IntKind.wrap .i64 ((a.length : Int) - 1)) && decide (IntKind.wrap .i64 ((a.length : Int) - 1) < (a.length : Int))) (Z10.c n e f (rd a (Int.toNat (IntKind.wrap .i64 ((a.length : Int) - 1)))) (R (n + 1 + 1))))
 have adS : (Ev fun n => Z9.c (n + 1) [] [] t (-1) 0 fun a e f => grd (decide (0 <= IntKind.wrap .i64 ((a.length : Int) - 1)) && decide (IntKind.wrap .i64 ((a.length : Int) - 1) < (a.length : Int))) (Z10.c (n + 1) e f (rd a (Int.toNat (IntKind.wrap .i64 ((a.length : Int) - 1)))) (R (n + 1 + 1)))) ↔
   Ev fun n => Z9.c n [] [] t (-1) 0 fun a e f => grd (decide (0 <= IntKind.wrap .i64 ((a.length : Int) - 1)) && decide (IntKind.wrap .i64 ((a.length : Int) - 1) < (a.length : Int))) (Z10.c n e f (rd a (Int.toNat (IntKind.wrap .i64 ((a.length : Int) - 1)))) (R (n + 1))) :=
  Ev.s0 fun n => Z9.c n [] [] t (-1) 0 fun a e f => grd (decide (0 <= IntKind.wrap .i64 ((a.length : Int) - 1)) && decide (IntKind.wrap .i64 ((a.length : Int) - 1) < (a.length : Int))) (Z10.c n e f (rd a (Int.toNat (IntKind.wrap .i64 ((a.length : Int) - 1)))) (R (n + 1)))
 refine adS.trans ?_
 have ad3 := ad (fun n a e f => grd (decide (0 <= IntKind.wrap .i64 ((a.length : Int) - 1)) && decide (IntKind.wrap .i64 ((a.length : Int) - 1) < (a.length : Int))) (Z10.c n e f (rd a (Int.toNat (IntKind.wrap .i64 ((a.length : Int) - 1)))) (R (n + 1))))
 refine Iff.trans ad3 ?_
 rw [ew]
 simp only [qB g1, Int.toNat_natCast, l1]
 rw [show ((qE t [] []).2.length : Int) - 1 = (((qE t [] []).2.length - 1 : Nat) : Int) from by omega, fr (fun n => R (n + 1))]
 exact Ev.s1 R _
def jN (v top : Int) : List qA -> List Int -> List qA -> List Int × List qA
 | [], to, N => (to, N)
 | x :: r, to, N => if x.1 = 1 /\ x.2.1 = v then jN v top r (to ++ [top]) N else jN v top r (to ++ [(N.length : Int)]) (N ++ [zT to x])
theorem qCz : ∀ {xs ys : List qA} {to : List Int} {a : List qA}, qE (xs ++ ys) to a = qE ys (qE xs to a).1 (qE xs to a).2
 | [], ys, to, a => rfl
 | x :: xs, ys, to, a => by rw [List.cons_append, qE, qCz, <- qE]
structure JI (i : Nat) (N : List qA) (to pl : List Int) : Prop where
 len : to.length = i
 lenp : pl.length = i
 rng : ∀ j, j < i -> 0 <= rd to j /\ rd to j < (N.length : Int)
 same : ∀ j, j < i -> rd pl j = rd (qE N [] []).1 (rd to j).toNat
theorem qHu {to pl s : List Int} {x : qA} (h : ∀ k ∈ x.2.2.2.2.2.2, rd pl k.toNat = rd s (rd to k.toNat).toNat) : zT s (zT to x) = zT pl x := by
 unfold zT
 simp only [List.map_map]
 rw [show (x.2.2.2.2.2.2.map ((fun k => rd s k.toNat) ∘ fun k => rd to k.toNat)) = x.2.2.2.2.2.2.map fun k => rd pl k.toNat from List.map_congr_left fun k hk => (h k hk).symm]
theorem qEh {v top inst : Int} : ∀ (ys : List qA) (i : Nat) (N : List qA) (to pl : List Int), JI i N to pl -> jH i ys -> 0 <= top -> top < (N.length : Int) -> rd (qE N [] []).1 top.toNat = inst ->
  vY v inst ys pl (qE N [] []).2 = ((vY v inst ys pl (qE N [] []).2).1, (qE (jN v top ys to N).2 [] []).2) /\
   JI (i + ys.length) (jN v top ys to N).2 (jN v top ys to N).1 (vY v inst ys pl (qE N [] []).2).1
 | [], i, N, to, pl, h, hk, h0, h1, h2 => ⟨rfl, h⟩
 | x :: ys, i, N, to, pl, h, hk, h0, h1, h2 => by
  obtain ⟨l1, l2, r1, s1⟩ := h
  rw [vY, jN, List.length_cons, show i + (ys.length + 1) = i + 1 + ys.length from by omega]
  by_cases hv : x.1 = 1 /\ x.2.1 = v
  ·rw [if_pos hv, if_pos hv]
   refine qEh ys (i + 1) N (to ++ [top]) (pl ++ [inst]) ⟨by simp [l1], by simp [l2], fun j hj => ?_, fun j hj => ?_⟩ hk.2 h0 h1 h2
   ·rw [jD]
    split
    ·exact ⟨h0, h1⟩
    ·exact r1 j (by omega)
   ·rw [jD, jD, l1, l2]
    split
    ·exact h2.symm
    ·exact s1 j (by omega)
  ·rw [if_neg hv, if_neg hv]
   have hlen := (vP (ys := N) (to := []) (a := [])).2
   rw [List.length_nil, Nat.zero_add] at hlen
   have e : zT (qE N [] []).1 (zT to x) = zT pl x := qHu fun k hk' => s1 k.toNat (by have := jR hk.1 hk'; omega)
   have es : qE (N ++ [zT to x]) [] [] = ((qE N [] []).1 ++ [(yL (zT pl x) (qE N [] []).2).1], (yL (zT pl x) (qE N [] []).2).2) := by
    rw [qCz, qE, qE, e]
   have := qEh (v := v) (top := top) (inst := inst) ys (i + 1) (N ++ [zT to x]) (to ++ [(N.length : Int)]) (pl ++ [(yL (zT pl x) (qE N [] []).2).1]) ⟨by simp [l1], by simp [l2], fun j hj => ?_, fun j hj => ?_⟩ hk.2 h0 (by simp; omega) (by
    rw [es]; simp only
    rw [jD, if_neg (by omega)]; exact h2)
   ·rw [es] at this
    exact this
   ·rw [jD, List.length_append]
    split
    ·simp; omega
    ·have := r1 j (by omega); simp; omega
   ·rw [jD, jD, l1, l2, es]
    simp only
    split
    ·rw [Int.toNat_natCast, jD, if_pos hlen.symm]
    ·have := r1 j (by omega)
     rw [jD, if_neg (by omega)]
     exact s1 j (by omega)
theorem qFf {a : List qA} : ∀ (n : Nat) (u : List Bool), (∀ p, p < n -> rd u p = false) -> yH a n u = u
 | 0, u, _ => rfl
 | n + 1, u, h => by
  rw [yH, if_neg (by rw [h n (by omega)]; decide)]
  exact qFf n u fun p hp => h p (by omega)
theorem qIc {ks : List Int} {u : List Bool} {p : Nat} (h : rd u p = false) (hk : ∀ k ∈ ks, k.toNat ≠ p) : rd (zS u ks) p = false := by
 cases hh : rd (zS u ks) p with
 | false => rfl
 | true =>
  rcases qAC hh with h1 | ⟨k, h1, h2⟩
  ·rw [h] at h1; cases h1
  ·exact absurd h2 (hk k h1)
theorem qFg {a : List qA} {lo : Nat} (hk : ∀ q, lo <= q -> q < a.length -> ∀ k ∈ (rd a q).2.2.2.2.2.2, lo <= k.toNat /\ k.toNat < q) : ∀ (n : Nat) (u : List Bool), u.length = a.length -> n <= a.length -> lo <= n -> (∀ p, n <= p -> p < a.length -> rd u p = true) ->
  (∀ p, lo <= p -> p < n -> rd u p = true \/ ∃ q, lo <= q /\ q < n /\ ∃ k ∈ (rd a q).2.2.2.2.2.2, k.toNat = p) -> (∀ p, p < lo -> rd u p = false) -> ∀ p, p < a.length -> rd (yH a n u) p = decide (lo <= p)
 | 0, u, hu, hn, hlo, h1, h2, h3, p, hp => by
  rw [yH, h1 p (Nat.zero_le _) hp, decide_eq_true (by omega)]
 | n + 1, u, hu, hn, hlo, h1, h2, h3, p, hp => by
  by_cases e : lo = n + 1
  ·rw [qFf (n + 1) u (fun p hp => h3 p (by omega))]
   by_cases hpl : lo <= p
   ·rw [h1 p (by omega) hp, decide_eq_true hpl]
   ·rw [h3 p (by omega), decide_eq_false hpl]
  ·have hnn : rd u n = true := by
    rcases h2 n (by omega) (by omega) with h | ⟨q, hq1, hq2, k, hk', e2⟩
    ·exact h
    ·have := (hk q hq1 (by omega) k hk').2
     omega
   rw [yH, if_pos hnn]
   refine qFg hk n _ (by rw [vG]; exact hu) (by omega) (by omega) (fun p' hp' hl => ?_) (fun p' hp1 hp2 => ?_) (fun p' hp' => ?_) p hp
   ·by_cases e : p' = n
    ·rw [e]; exact vF hnn
    ·exact vF (h1 p' (by omega) hl)
   ·rcases h2 p' hp1 (by omega) with h | ⟨q, hq1, hq2, k, hk', e2⟩
    ·exact .inl (vF h)
    ·by_cases eq : q = n
     ·subst eq
      refine .inl ?_
      rw [<- e2]
      exact qBw hk' (by rw [e2]; omega)
     ·exact .inr ⟨q, hq1, by omega, k, hk', e2⟩
   ·exact qIc (h3 p' hp') fun k hk' => by
     have := (hk n (by omega) (by omega) k hk').1
     omega
theorem qHh {u : List Bool} : ∀ (xs ys : List qA) (to : List Int) (out : List qA), (∀ p, to.length <= p -> p < to.length + xs.length -> rd u p = false) -> yN u (xs ++ ys) to out = yN u ys (to ++ List.replicate xs.length 0) out
 | [], ys, to, out, _ => by simp
 | x :: xs, ys, to, out, h => by
  rw [List.cons_append, yN, if_neg (by rw [h to.length (by omega) (by simp)]; decide), qHh xs ys (to ++ [0]) out fun p h1 h2 => h p (by simp at h1; omega) (by simp at h2 ⊢; omega)]
  rw [List.append_assoc, List.length_cons, List.replicate_succ, List.singleton_append]
theorem qHi {u : List Bool} {m : Nat} {tj : List Int} : ∀ (ys : List qA) (to : List Int) (out : List qA), (∀ p, to.length <= p -> p < to.length + ys.length -> rd u p = true) -> to.length = m + out.length -> (∀ j, j < out.length -> rd to (m + j) = (j : Int)) -> (∀ j, j < out.length + ys.length -> rd tj j = ((m + j : Nat) : Int)) ->
  jH out.length ys -> yN u (ys.map (zT tj)) to out = out ++ ys
 | [], to, out, _, _, _, _, _ => by rw [List.map_nil, yN, List.append_nil]
 | x :: ys, to, out, h, hl, ht, hj, hk => by
  have e : zT to (zT tj x) = x := by
   have := qHu (to := tj) (s := to) (pl := List.map (fun j : Nat => (j : Int)) (List.range out.length)) (x := x) fun k hk' => by
    have := jR hk.1 hk'
    rw [hj k.toNat (by simp; omega), Int.toNat_natCast, ht k.toNat (by omega), rd, List.getD_eq_getElem?_getD, List.getElem?_map, List.getElem?_range (by omega)]
    rfl
   rw [this]
   exact qJE fun k hk' => by
    have := jR hk.1 hk'
    rw [rd, List.getD_eq_getElem?_getD, List.getElem?_map, List.getElem?_range (by omega)]
    simp; omega
  rw [List.map_cons, yN, if_pos (h to.length (Nat.le_refl _) (by simp)), e]
  rw [qHi ys (to ++ [(out.length : Int)]) (out ++ [x]) (fun p h1 h2 => h p (by simp at h1; omega) (by simp at h2 ⊢; omega)) (by simp; omega) (fun j hj' => by
   rw [jD]
   simp at hj'
   split
   ·omega
   ·exact ht j (by omega)) (fun j hj' => hj j (by simp at hj' ⊢; omega)) (by rw [List.length_append]; exact hk.2)]
  simp
theorem qIe {u t : List qA} {tj : List Int} (hk : jH 0 t) (h0 : 0 < t.length) (hj : ∀ j, j < t.length -> rd tj j = ((u.length + j : Nat) : Int)) (hl : ∀ i, i < t.length - 1 -> ∃ j, j < t.length /\ ∃ k ∈ (rd t j).2.2.2.2.2.2, k.toNat = i) :
  vM (u ++ t.map (zT tj)) (u.length + t.length - 1) = t := by
 have hlen : (u ++ t.map (zT tj)).length = u.length + t.length := by simp
 have at_ : ∀ j, j < t.length -> rd (u ++ t.map (zT tj)) (u.length + j) = zT tj (rd t j) := fun j hj' => by
  rw [rd, List.getD_eq_getElem?_getD, List.getElem?_append_right (by omega), Nat.add_sub_cancel_left, List.getElem?_map, rd, List.getD_eq_getElem?_getD, List.getElem?_eq_getElem hj']; rfl
 unfold vM
 rw [show u.length + t.length - 1 + 1 = (u ++ t.map (zT tj)).length from by omega, hlen]
 have hm : rd ((List.replicate (u.length + t.length) false).set (u.length + t.length - 1) true) (u.length + t.length - 1) = true := qA1 (by simp; omega)
 have hf : ∀ p, p ≠ u.length + t.length - 1 -> rd ((List.replicate (u.length + t.length) false).set (u.length + t.length - 1) true) p = false := fun p hp => by
  rw [rd, List.getD_eq_getElem?_getD, List.getElem?_set, if_neg (fun e => hp e.symm), List.getElem?_replicate]
  split <;> rfl
 have hkk : ∀ q, u.length <= q -> q < (u ++ t.map (zT tj)).length -> ∀ k ∈ (rd (u ++ t.map (zT tj)) q).2.2.2.2.2.2, u.length <= k.toNat /\ k.toNat < q := fun q h1 h2 k hk' => by
  obtain ⟨j, rfl⟩ : ∃ j, q = u.length + j := ⟨q - u.length, by omega⟩
  rw [hlen] at h2
  rw [at_ j (by omega)] at hk'
  obtain ⟨i, hi, rfl⟩ := List.mem_map.1 (show k ∈ List.map (fun k => rd tj k.toNat) (rd t j).2.2.2.2.2.2 from hk')
  have := jR (wX (i := 0) hk (show j < t.length by omega)) hi
  rw [hj i.toNat (by omega), Int.toNat_natCast]
  omega
 have key := qFg hkk (u.length + t.length) ((List.replicate (u.length + t.length) false).set (u.length + t.length - 1) true) (by simp) (by omega) (by omega) (fun p h1 h2 => by omega) (fun p h1 h2 => by
  by_cases e : p = u.length + t.length - 1
  ·rw [e]; exact .inl hm
  ·obtain ⟨j, h3, k, h4, h5⟩ := hl (p - u.length) (by omega)
   refine .inr ⟨u.length + j, by omega, by omega, rd tj k.toNat, ?_, ?_⟩
   ·rw [at_ j h3]
    exact List.mem_map.2 ⟨k, h4, rfl⟩
   ·rw [hj k.toNat (by omega), Int.toNat_natCast]; omega) (fun p hp => hf p (by omega))
 have r1 := qHh (u := yH (u ++ t.map (zT tj)) (u.length + t.length) ((List.replicate (u.length + t.length) false).set (u.length + t.length - 1) true)) u (t.map (zT tj)) [] [] (fun p h1 h2 => by
  rw [key p (by simp at h2; omega), decide_eq_false (by simp at h2; omega)])
 rw [r1, List.nil_append]
 have r2 := qHi (u := yH (u ++ t.map (zT tj)) (u.length + t.length) ((List.replicate (u.length + t.length) false).set (u.length + t.length - 1) true)) (m := u.length) (tj := tj) t (List.replicate u.length 0) [] (fun p h1 h2 => by
  simp at h1 h2
  rw [key p (by omega), decide_eq_true h1]) (by simp) (fun j hj' => by simp at hj') (fun j hj' => hj j (by simpa using hj')) hk
 rw [r2, List.nil_append]
def isV (v : Int) (x : qA) : Prop := x.1 = 1 /\ x.2.1 = v
def wZ (t : List qA) : Prop := ∀ i, i < t.length - 1 -> ∃ j, j < t.length /\ ∃ k ∈ (rd t j).2.2.2.2.2.2, k.toNat = i
structure JX (v top : Int) (u t : List qA) (to : List Int) (N : List qA) : Prop where
 tk : jH 0 t
 len : to.length = t.length
 nk : jH 0 N
 ge : u.length <= N.length
 vat : ∀ j, j < t.length -> isV v (rd t j) -> rd to j = top
 at_ : ∀ j, j < t.length -> ¬ isV v (rd t j) -> (u.length : Int) <= rd to j /\ rd to j < (N.length : Int) /\ rd N (rd to j).toNat = zT to (rd t j)
 hit : ∀ p, u.length <= p -> p < N.length -> ∃ j, j < t.length /\ ¬ isV v (rd t j) /\ rd to j = (p : Int)
 low : ∀ p, p < u.length -> rd N p = rd u p
 lst : 0 < t.length -> ¬ isV v (rd t (t.length - 1)) -> rd to (t.length - 1) = (N.length : Int) - 1
theorem JX.rng {v top : Int} {u t : List qA} {to : List Int} {N : List qA} (h : JX v top u t to N) (ht : 0 <= top) (ht' : top < (u.length : Int)) {j : Nat} (hj : j < t.length) : 0 <= rd to j /\ rd to j < (N.length : Int) := by
 have := h.ge
 by_cases hv : isV v (rd t j)
 ·rw [h.vat j hj hv]; omega
 ·have := h.at_ j hj hv; omega
theorem JX.step {v top : Int} {u t : List qA} {to : List Int} {N : List qA} (h : JX v top u t to N) (ht : 0 <= top) (ht' : top < (u.length : Int)) {x : qA} (hx : jF t.length x.2.2.2.2.2.2 = true) :
  (isV v x -> JX v top u (t ++ [x]) (to ++ [top]) N) /\ (¬ isV v x -> JX v top u (t ++ [x]) (to ++ [(N.length : Int)]) (N ++ [zT to x])) := by
 have hrng := fun {j : Nat} (hj : j < t.length) => h.rng ht ht' hj
 obtain ⟨h1, h2, h3, h4, h5, h6, h7, h8, h9⟩ := h
 have km : ∀ (w : Int) (j : Nat), j < t.length -> zT (to ++ [w]) (rd t j) = zT to (rd t j) := fun w j hj => qA8 (yQ (wX (i := 0) h1 hj) (by omega))
 have tk' : jH 0 (t ++ [x]) := yR h1 ⟨by simpa using hx, trivial⟩
 refine ⟨fun hv => ⟨tk', by simp [h2], h3, h4, fun j hj hvj => ?_, fun j hj hvj => ?_, fun p hp1 hp2 => ?_, h8, fun _ hn => ?_⟩, fun hv => ⟨tk', by simp [h2], ?_, by simp; omega, fun j hj hvj => ?_, fun j hj hvj => ?_, fun p hp1 hp2 => ?_, fun p hp => ?_, fun _ hn => ?_⟩⟩
 ·rw [jD, h2]
  split
  ·rfl
  ·rename_i e
   rw [jD, if_neg e] at hvj
   exact h5 j (by simp at hj; omega) hvj
 ·rw [jD] at hvj
  split at hvj
  ·exact absurd hv hvj
  ·rename_i e
   have hj' : j < t.length := by simp at hj; omega
   obtain ⟨a1, a2, a3⟩ := h6 j hj' hvj
   rw [jD, jD, h2, if_neg e, if_neg e, km top j hj']
   exact ⟨a1, a2, a3⟩
 ·obtain ⟨j, j1, j2, j3⟩ := h7 p hp1 hp2
  exact ⟨j, by simp; omega, by rw [jD, if_neg (by omega)]; exact j2, by rw [jD, if_neg (by omega)]; exact j3⟩
 ·exact absurd (by rw [List.length_append]; simp only [List.length_cons, List.length_nil, Nat.add_sub_cancel]; rw [jD, if_pos rfl]; exact hv) hn
 ·refine yR h3 ⟨?_, trivial⟩
  unfold jF
  rw [List.all_eq_true]
  intro k hk
  obtain ⟨j, hj, rfl⟩ := List.mem_map.1 hk
  have := jR hx hj
  have := hrng (j := j.toNat) (by omega)
  exact decide_eq_true (by simp; omega)
 ·rw [jD] at hvj
  split at hvj
  ·exact absurd hvj hv
  ·rename_i e
   rw [jD, h2, if_neg e]
   exact h5 j (by simp at hj; omega) hvj
 ·rw [jD (a := to), jD (a := t), h2]
  by_cases e : j = t.length
  ·rw [if_pos e, if_pos e]
   refine ⟨by omega, by simp; omega, ?_⟩
   rw [Int.toNat_natCast, jD, if_pos rfl, qA8 (by rw [h2]; exact hx)]
  ·rw [if_neg e, if_neg e]
   rw [jD, if_neg e] at hvj
   have hj' : j < t.length := by simp at hj; omega
   obtain ⟨a1, a2, a3⟩ := h6 j hj' hvj
   refine ⟨a1, by simp; omega, ?_⟩
   rw [jD, if_neg (by omega), a3, km _ j hj']
 ·by_cases e : p < N.length
  ·obtain ⟨j, j1, j2, j3⟩ := h7 p hp1 e
   exact ⟨j, by simp; omega, by rw [jD, if_neg (by omega)]; exact j2, by rw [jD, if_neg (by omega)]; exact j3⟩
  ·refine ⟨t.length, by simp, by rw [jD, if_pos rfl]; exact hv, ?_⟩
   rw [jD, if_pos h2.symm]
   simp at hp2; omega
 ·rw [jD, if_neg (by omega)]; exact h8 p hp
 ·rw [List.length_append]
  simp only [List.length_cons, List.length_nil, Nat.add_sub_cancel]
  rw [jD, if_pos h2.symm]
  simp
theorem JX.go {v top : Int} {u : List qA} (ht : 0 <= top) (ht' : top < (u.length : Int)) : ∀ {ys t : List qA} {to : List Int} {N : List qA}, JX v top u t to N -> jH t.length ys -> JX v top u (t ++ ys) (jN v top ys to N).1 (jN v top ys to N).2
 | [], t, to, N, h, _ => by rw [jN, List.append_nil]; exact h
 | x :: ys, t, to, N, h, hk => by
  rw [jN, show t ++ x :: ys = (t ++ [x]) ++ ys from by simp]
  split
  ·rename_i hv
   exact JX.go ht ht' ((h.step ht ht' hk.1).1 hv) (by rw [List.length_append]; exact hk.2)
  ·rename_i hv
   exact JX.go ht ht' ((h.step ht ht' hk.1).2 hv) (by rw [List.length_append]; exact hk.2)
theorem JX.of {v : Int} {u t : List qA} (hk : jH 0 t) (hu : jH 0 u) (h0 : 0 < u.length) : JX v ((u.length : Int) - 1) u t (jN v ((u.length : Int) - 1) t [] u).1 (jN v ((u.length : Int) - 1) t [] u).2 := by
 have := JX.go (v := v) (top := (u.length : Int) - 1) (u := u) (by omega) (by omega) (ys := t) (t := []) (to := []) (N := u) ⟨trivial, rfl, hu, Nat.le_refl _, fun j hj => by simp at hj, fun j hj => by simp at hj, fun p h1 h2 => by omega, fun _ _ => rfl, fun h => by simp at h⟩ hk
 rwa [List.nil_append] at this
theorem JX.used {v : Int} {u t : List qA} {to : List Int} {N : List qA} (h : JX v ((u.length : Int) - 1) u t to N) (h0 : 0 < t.length) (hu0 : 0 < u.length) (hT : wZ t) (hU : wZ u) (leaf : ∀ j, j < t.length -> (rd t j).1 = 1 -> (rd t j).2.2.2.2.2.2 = []) (hv : ∃ j, j < t.length /\ isV v (rd t j)) :
  rd to (t.length - 1) = (N.length : Int) - 1 /\ wZ N := by
 have hk := h.tk
 obtain ⟨_, h2, h3, h4, h5, h6, h7, h8, h9⟩ := h
 have kid : ∀ i j, j < t.length -> (∃ k ∈ (rd t j).2.2.2.2.2.2, k.toNat = i) -> ∃ q, q < N.length /\ ∃ k ∈ (rd N q).2.2.2.2.2.2, k.toNat = (rd to i).toNat := fun i j hj ⟨k, hk', e⟩ => by
  have nv : ¬ isV v (rd t j) := fun hh => by rw [leaf j hj hh.1] at hk'; cases hk'
  obtain ⟨a1, a2, a3⟩ := h6 j hj nv
  refine ⟨(rd to j).toNat, by omega, rd to i, ?_, rfl⟩
  rw [a3]
  exact List.mem_map.2 ⟨k, hk', by rw [e]⟩
 by_cases hl : isV v (rd t (t.length - 1))
 ·
  have n1 : t.length = 1 := by
   by_cases e : t.length = 1
   ·exact e
   ·obtain ⟨j, hj, k, hk', e2⟩ := hT (t.length - 2) (by omega)
    have := jR (wX (i := 0) hk hj) hk'
    have ej : j = t.length - 1 := by omega
    subst ej
    rw [leaf _ hj hl.1] at hk'
    cases hk'
  have nN : N.length = u.length := by
   by_cases e : N.length = u.length
   ·exact e
   ·obtain ⟨j, j1, j2, j3⟩ := h7 u.length (Nat.le_refl _) (by omega)
    have : j = t.length - 1 := by omega
    subst this
    exact absurd hl j2
  refine ⟨by rw [h5 _ (by omega) hl, nN], fun i hi => ?_⟩
  obtain ⟨j, hj, hh⟩ := hU i (by omega)
  exact ⟨j, by omega, by rw [h8 j hj]; exact hh⟩
 ·have hlast := h9 h0 hl
  refine ⟨hlast, fun p hp => ?_⟩
  by_cases e1 : u.length <= p
  ·obtain ⟨j, j1, j2, j3⟩ := h7 p e1 (by omega)
   have : j ≠ t.length - 1 := by rintro rfl; omega
   obtain ⟨j', hj', hh⟩ := hT j (by omega)
   have := kid j j' hj' hh
   rw [j3] at this
   simpa using this
  ·by_cases e2 : p = u.length - 1
   ·obtain ⟨j, j1, j2⟩ := hv
    have : j ≠ t.length - 1 := by rintro rfl; exact hl j2
    obtain ⟨j', hj', hh⟩ := hT j (by omega)
    have := kid j j' hj' hh
    rw [h5 j j1 j2] at this
    rw [e2]
    simpa [show ((u.length : Int) - 1).toNat = u.length - 1 from by omega] using this
   ·obtain ⟨j, hj, hh⟩ := hU p (by omega)
    exact ⟨j, by omega, by rw [h8 j hj]; exact hh⟩
theorem qFs {v top : Int} : ∀ {ys : List qA} {to : List Int} {N : List qA}, (∀ y ∈ ys, ¬ isV v y) -> jH to.length ys ->
  ∃ z : List Int, z.length = ys.length /\ (∀ j, j < ys.length -> rd z j = ((N.length + j : Nat) : Int)) /\ jN v top ys to N = (to ++ z, N ++ ys.map (zT (to ++ z)))
 | [], to, N, _, _ => ⟨[], rfl, fun j hj => by simp at hj, by rw [jN]; simp⟩
 | x :: ys, to, N, h, hk => by
  obtain ⟨z, z1, z2, z3⟩ := qFs (v := v) (top := top) (ys := ys) (to := to ++ [(N.length : Int)]) (N := N ++ [zT to x]) (fun y hy => h y (List.mem_cons_of_mem _ hy)) (by rw [List.length_append]; exact hk.2)
  refine ⟨(N.length : Int) :: z, by simp [z1], fun j hj => ?_, ?_⟩
  ·cases j with
   | zero => rfl
   | succ j =>
    have := z2 j (by simpa using hj)
    rw [List.length_append] at this
    show rd z j = _
    rw [this]
    simp; omega
  ·rw [jN, if_neg (show ¬ (x.1 = 1 /\ x.2.1 = v) from h x List.mem_cons_self), z3]
   have e : to ++ [(N.length : Int)] ++ z = to ++ (N.length : Int) :: z := by simp
   have e2 : zT (to ++ (N.length : Int) :: z) x = zT to x := by
    unfold zT
    rw [show (x.2.2.2.2.2.2.map fun k => rd (to ++ (N.length : Int) :: z) k.toNat) = x.2.2.2.2.2.2.map fun k => rd to k.toNat from List.map_congr_left fun k hk' => qBS (by have := jR hk.1 hk'; omega)]
   rw [e, List.map_cons, e2, List.append_assoc, List.singleton_append]
theorem qAd {N : List qA} (hk : jH 0 N) (h0 : 0 < N.length) (hu : wZ N) :
  rd (qE N [] []).1 (N.length - 1) = ((qE N [] []).2.length : Int) - 1 /\ 0 < (qE N [] []).2.length /\ jH 0 (qE N [] []).2 /\ vM (qE N [] []).2 ((qE N [] []).2.length - 1) = (qE N [] []).2 := by
 have hS := SI.of hk
 obtain ⟨l1, l2, l3⟩ := hS.last h0 hu
 exact ⟨l1, l2, hS.kids, qA2 hS.kids l2 l3⟩
theorem qMy {v : Int} {t u : List qA} (ht : jH 0 t) (hu : jH 0 u) (t0 : 0 < t.length) (u0 : 0 < u.length) (hT : wZ t) (hU : wZ u) (leaf : ∀ j, j < t.length -> (rd t j).1 = 1 -> (rd t j).2.2.2.2.2.2 = []) (hv : ∃ j, j < t.length /\ isV v (rd t j))
  {N : List qA} {to : List Int} (hN : jN v ((u.length : Int) - 1) t [] u = (to, N)) {pl : List Int} {a : List qA} (hP : vY v (((qE u [] []).2.length : Int) - 1) t [] (qE u [] []).2 = (pl, a)) :
  rd to (t.length - 1) = (N.length : Int) - 1 /\ 0 < N.length /\ jH 0 N /\ vM N (N.length - 1) = N /\ a = (qE N [] []).2 /\ rd pl (t.length - 1) = (a.length : Int) - 1 /\ 0 < a.length /\ jH 0 a /\ vM a (a.length - 1) = a /\
   rd (qE N [] []).1 (N.length - 1) = ((qE N [] []).2.length : Int) - 1 /\ to.length = t.length /\ pl.length = t.length /\ wZ N := by
 have hX : JX v ((u.length : Int) - 1) u t to N := by
  have := JX.of (v := v) ht hu u0
  rw [hN] at this
  exact this
 obtain ⟨x1, x2⟩ := hX.used t0 u0 hT hU leaf hv
 have hge := hX.ge
 have nk : jH 0 N := hX.nk
 have N0 : 0 < N.length := by omega
 have uL := qAd hu u0 hU
 have jp := qEh (v := v) (top := (u.length : Int) - 1) (inst := ((qE u [] []).2.length : Int) - 1) t 0 u [] [] ⟨rfl, rfl, fun j hj => by omega, fun j hj => by omega⟩ ht (by omega) (by omega) (by rw [show ((u.length : Int) - 1).toNat = u.length - 1 from by omega]; exact uL.1)
 rw [hP, hN] at jp
 obtain ⟨j1, j2⟩ := jp
 simp only [Prod.mk.injEq, true_and] at j1
 subst j1
 obtain ⟨q1, q2, q3, q4⟩ := qAd nk N0 x2
 rw [Nat.zero_add] at j2
 refine ⟨x1, N0, nk, qA2 nk N0 x2, rfl, ?_, q2, q3, q4, q1, j2.len, j2.lenp, x2⟩
 rw [j2.same (t.length - 1) (by omega)]
 simp only
 rw [x1, show ((N.length : Int) - 1).toNat = N.length - 1 from by omega]
 exact q1
theorem qKS {v : Int} {t u : List qA} (ht : jH 0 t) (t0 : 0 < t.length) (hT : wZ t) (hv : ∀ y ∈ t, ¬ isV v y) {N : List qA} {to : List Int} {top : Int} (hN : jN v top t [] u = (to, N)) :
  rd to (t.length - 1) = (N.length : Int) - 1 /\ 0 < N.length /\ vM N (N.length - 1) = t /\ to.length = t.length /\ N.length = u.length + t.length := by
 obtain ⟨z, z1, z2, z3⟩ := qFs (v := v) (top := top) (ys := t) (to := []) (N := u) hv ht
 rw [hN, List.nil_append] at z3
 simp only [Prod.mk.injEq] at z3
 obtain ⟨rfl, rfl⟩ := z3
 have hl : (u ++ t.map (zT to)).length = u.length + t.length := by simp
 refine ⟨by rw [z2 _ (by omega), hl]; omega, by omega, ?_, z1, hl⟩
 rw [hl]
 exact qIe ht t0 z2 hT
theorem qHn {nodes : List qA} {i : Nat} {to ks : List Int} (hks : (rd nodes i).2.2.2.2.2.2 = ks) (hi : i < nodes.length) (hl : ks.length <= 4096) : ∀ (ys : List Int) (x : Int) (u : List Bool), ks.drop x.toNat = ys -> 0 <= x -> jF u.length ys = true -> i < u.length -> rd u i = true ->
  ∀ Kx : Nat -> List qA -> Int -> List Bool -> List Int -> Prop,
  (Ev (fun n => Z78.l8 n nodes i to x u (Kx n)) ↔ Ev (fun n => Kx n nodes i (zS u ys) to))
 | [], x, u, h1, h0, hk, hiu, hr, Kx => by
  have := qO h1 h0
  refine Ev.suc.trans ?_
  simp (disch := omega) only [Z78.l8, Z78.l8.b, Int.toNat_natCast, qB, hr, if_true, hks, if_neg, decide_eq_true_eq, zS]
  exact Ev.s4 Kx _ _ _ _
 | y :: ys, x, u, h1, h0, hk, hiu, hr, Kx => by
  obtain ⟨e1, e2, e3⟩ := qD h1 h0
  rw [jW] at hk
  refine Ev.suc.trans ?_
  simp (disch := omega) only [Z78.l8, Z78.l8.b, Z78.j1, Int.toNat_natCast, qB, hr, if_true, hks, if_pos, decide_eq_true_eq, e2, qG]
  rw [qHn hks hi hl ys (x + 1) (u.set y.toNat true) e3 (by omega) (by rw [List.length_set]; exact hk.2) (by rw [List.length_set]; exact hiu) (vF (ks := [y]) hr) (fun n => Kx (n + 1)), zS]
  exact Ev.s4 Kx _ _ _ _
theorem qEc {nodes : List qA} {to : List Int} (hn : nodes.length <= 1000000) (hk : jH 0 nodes) (hl : ∀ x ∈ nodes, x.2.2.2.2.2.2.length <= 4096) : ∀ (m : Nat) (u : List Bool), u.length = nodes.length -> m <= nodes.length ->
  ∀ Kx : Nat -> List qA -> List Bool -> List Int -> Prop,
  (Ev (fun n => Z78.l5 n nodes ((m : Int) - 1) u to (Kx n)) ↔ Ev (fun n => Kx n nodes (yH nodes m u) to))
 | 0, u, hu, hm, Kx => by
  refine Ev.suc.trans ?_
  simp only [Z78.l5, Z78.l5.b]
  rw [Ev.iteI, if_neg (by simp), yH]
  exact Ev.s3 Kx _ _ _
 | m + 1, u, hu, hm, Kx => by
  have hx : rd nodes m ∈ nodes := by
   rw [rd, List.getD_eq_getElem?_getD, List.getElem?_eq_getElem (by omega)]
   exact List.getElem_mem _
  have ea : ((m + 1 : Nat) : Int) - 1 = (m : Int) := by omega
  have ew : IntKind.wrap .i64 ((m : Int) - 1) = (m : Int) - 1 := qG (by omega) (by omega)
  refine Ev.suc.trans ?_
  simp only [Z78.l5, Z78.l5.b, ea]
  rw [Ev.iteI, if_pos (by simp), yH]
  by_cases hr : rd u m = true
  ·rw [if_pos hr]
   have hki := yQ (wX (i := 0) hk (show m < nodes.length by omega)) (show ((0 + m : Nat) : Int) <= (u.length : Int) by omega)
   rw [qHn rfl (by omega) (hl _ hx) (rd nodes m).2.2.2.2.2.2 0 u rfl (by omega) hki (by omega) hr (fun n h i c f => Z78.l5 n h (IntKind.wrap .i64 (i - 1)) c f (Kx (n + 1)))]
   rw [ew, qEc hn hk hl m _ (by rw [vG]; exact hu) (by omega) (fun n => Kx (n + 1))]
   exact Ev.s3 Kx _ _ _
  ·rw [if_neg hr]
   have l8 : ∀ Ky : Nat -> List qA -> Int -> List Bool -> List Int -> Prop, (Ev (fun n => Z78.l8 n nodes m to 0 u (Ky n)) ↔ Ev (fun n => Ky n nodes m u to)) := fun Ky => by
    have g1 : (0 : Int) <= (m : Int) /\ (m : Int) < (u.length : Int) := ⟨by omega, by omega⟩
    refine Ev.suc.trans ?_
    simp only [Z78.l8, Z78.l8.b, Int.toNat_natCast, qB g1, hr, if_false]
    exact Ev.s4 Ky _ _ _ _
   rw [l8 (fun n h i c f => Z78.l5 n h (IntKind.wrap .i64 (i - 1)) c f (Kx (n + 1)))]
   rw [ew, qEc hn hk hl m _ hu (by omega) (fun n => Kx (n + 1))]
   exact Ev.s3 Kx _ _ _
theorem qHy {d : List qA} {e : Int} {f : List qA} {g : List Bool} {c h : List Int} {i j k l m : Int} {N : Nat} (hN : N <= 4096) : ∀ (ys done : List Int), done.length + ys.length = N -> jF c.length ys = true ->
  ∀ Kx : Nat -> List qA -> Int -> List qA -> List Bool -> List Int -> List Int -> List Int -> Int -> Int -> Int -> Int -> Int -> Prop,
  (Ev (fun n => Z78.l18 n d e f g c h i j k l m done.length (done ++ ys) (Kx n)) ↔ Ev (fun n => Kx n d e f g c h (done ++ ys.map fun k => rd c k.toNat) i j k l m))
 | [], done, hN', hk, Kx => by
  refine Ev.suc.trans ?_
  simp only [List.length_nil, Nat.add_zero] at hN'
  have el : (done ++ ([] : List Int)).length = done.length := by simp
  simp (disch := omega) only [Z78.l18, Z78.l18.b, if_neg, decide_eq_true_eq, List.map_nil, el]
  exact Ev.s0 fun n => Kx n d e f g c h (done ++ []) i j k l m
 | y :: ys, done, hN', hk, Kx => by
  rw [jW] at hk
  rw [List.length_cons] at hN'
  have el : (done ++ y :: ys).length = done.length + (ys.length + 1) := by simp
  have er : rd (done ++ y :: ys) done.length = y := qDx
  have es : ∀ w : Int, (done ++ y :: ys).set done.length w = (done ++ [w]) ++ ys := fun w => by
   rw [List.set_append_right _ _ (Nat.le_refl _), Nat.sub_self, List.set_cons_zero]; simp
  refine Ev.suc.trans ?_
  simp (disch := omega) only [Z78.l18, Z78.l18.b, if_pos, decide_eq_true_eq, qB, Int.toNat_natCast, er, qG, el, es]
  have := qHy (d := d) (e := e) (f := f) (g := g) (c := c) (h := h) (i := i) (j := j) (k := k) (l := l) (m := m) hN ys (done ++ [rd c y.toNat]) (by simp; omega) hk.2 (fun n => Kx (n + 1))
  rw [show ((done ++ [rd c y.toNat]).length : Int) = (done.length : Int) + 1 from by simp] at this
  rw [this, List.append_assoc, List.singleton_append, List.map_cons]
  exact Ev.s0 fun n => Kx n d e f g c h (done ++ rd c y.toNat :: ys.map fun k => rd c k.toNat) i j k l m
theorem qJm {nodes : List qA} {u : List Bool} (hn : nodes.length <= 1000000) (hu : u.length = nodes.length) (hl : ∀ x ∈ nodes, qDi x) : ∀ (ys : List qA) (to z : List Int) (out : List qA), nodes.drop to.length = ys -> to.length + z.length = nodes.length -> (∀ w ∈ z, w = 0) -> jH to.length ys -> out.length <= to.length ->
  ∀ Kx : Nat -> List qA -> Prop,
  (Ev (fun n => Z78.l13 n nodes to.length out u (to ++ z) (Kx n)) ↔ Ev (fun n => Kx n (yN u ys to out)))
 | [], to, z, out, h, hz, h0, hk, ho, Kx => by
  have hle := List.drop_eq_nil_iff.1 h
  refine Ev.suc.trans ?_
  simp (disch := omega) only [Z78.l13, Z78.l13.b, if_neg, decide_eq_true_eq, yN]
  exact Ev.s1 Kx _
 | x :: ys, to, z, out, h, hz, h0, hk, ho, Kx => by
  have h' : nodes.drop (to.length : Int).toNat = x :: ys := h
  obtain ⟨e1, e2, e3⟩ := qD h' (by omega)
  have e2' : rd nodes to.length = x := e2
  have hx : x ∈ nodes := by
   rw [<- e2', rd, List.getD_eq_getElem?_getD, List.getElem?_eq_getElem (by omega)]
   exact List.getElem_mem _
  match z, hz, h0 with
  | [], hz, h0 => simp at hz; omega
  | z0 :: z, hz, h0 =>
   have hz0 : z0 = 0 := h0 z0 List.mem_cons_self
   subst hz0
   rw [List.length_cons] at hz
   have el : (to ++ (0 : Int) :: z).length = to.length + (z.length + 1) := by simp
   have es : ∀ w : Int, (to ++ (0 : Int) :: z).set to.length w = (to ++ [w]) ++ z := fun w => by
    rw [List.set_append_right _ _ (Nat.le_refl _), Nat.sub_self, List.set_cons_zero]; simp
   have ew : IntKind.wrap .i64 ((to.length : Int) + 1) = ((to.length + 1 : Nat) : Int) := by rw [qG (by omega) (by omega)]; simp
   have nxt : ∀ (w : Int) (out' : List qA), out'.length <= to.length + 1 -> ∀ Kx : Nat -> List qA -> Prop, ((Ev fun n => Z78.l13 n nodes (IntKind.wrap .i64 ((to.length : Int) + 1)) out' u ((to ++ [w]) ++ z) (Kx n)) ↔ Ev fun n => Kx n (yN u ys (to ++ [w]) out')) := fun w out' ho' Kx => by
    have := qJm hn hu hl ys (to ++ [w]) z out' (by rw [<- e3, List.length_append]; rfl) (by simp; omega) (fun v hv => h0 v (List.mem_cons_of_mem _ hv)) (by rw [List.length_append]; exact hk.2) (by simp; omega) Kx
    rw [ew]
    rw [List.length_append] at this
    exact this
   obtain ⟨hxw, hkl⟩ := hl x hx
   refine Ev.suc.trans ?_
   simp (disch := omega) only [Z78.l13, Z78.l13.b, if_pos, decide_eq_true_eq, qB, Int.toNat_natCast, e2', Ev.iteI]
   rw [yN]
   cases hr : rd u to.length with
   | false =>
    rw [if_pos (by rfl), if_neg (by decide)]
    have := nxt 0 out (by omega) (fun n => Kx (n + 1))
    rw [List.append_assoc, List.singleton_append] at this
    rw [this]
    exact Ev.s1 Kx _
   | true =>
    rw [if_neg (by decide), if_pos rfl]
    refine (qAI hxw (by omega) _).trans ?_
    have kb := qHy (d := nodes) (e := to.length) (f := out) (g := u) (c := to ++ (0 : Int) :: z) (h := x.2.2.2.2.2.1) (i := x.1) (j := x.2.1) (k := x.2.2.1) (l := x.2.2.2.1) (m := x.2.2.2.2.1) hkl x.2.2.2.2.2.2 [] (by simp) (yQ hk.1 (by rw [el]; omega))
    have em : (x.2.2.2.2.2.2.map fun k => rd (to ++ (0 : Int) :: z) k.toNat) = x.2.2.2.2.2.2.map fun k => rd to k.toNat :=
     List.map_congr_left fun k hk' => qBS (by have := jR hk.1 hk'; omega)
    rw [List.nil_append, List.nil_append, em] at kb
    refine (kb _).trans ?_
    have g1 : (0 : Int) <= (to.length : Int) /\ (to.length : Int) < ((to ++ (0 : Int) :: z).length : Int) := ⟨by omega, by rw [el]; omega⟩
    have g2 : out.length + ([(x.1, x.2.1, x.2.2.1, x.2.2.2.1, x.2.2.2.2.1, x.2.2.2.2.2.1, x.2.2.2.2.2.2.map fun k => rd to k.toNat)] : List qA).length <= 790660046940 := by simp only [List.length_cons, List.length_nil]; omega
    simp only [qB g1, jT g2, Int.toNat_natCast, es]
    rw [nxt (out.length : Int) _ (by simp; omega) (fun n => Kx (n + 1))]
    exact Ev.s1 Kx _
theorem qIn {nodes : List qA} (hn : nodes.length <= 1000000) (h0 : 0 < nodes.length) (hk : jH 0 nodes) (hl : ∀ x ∈ nodes, qDi x) (R : Nat -> List qA -> Prop) :
  Ev (fun n => Z78.c n nodes ((nodes.length : Int) - 1) (R n)) ↔ Ev (fun n => R n (vM nodes (nodes.length - 1))) := by
 have g1 : (0 : Int) <= (nodes.length : Int) /\ (nodes.length : Int) <= 35184372088832 := ⟨by omega, by omega⟩
 have g2 : (0 : Int) <= (nodes.length : Int) - 1 /\ (nodes.length : Int) - 1 < ((List.replicate nodes.length false).length : Int) := ⟨by omega, by simp; omega⟩
 have g3 : (0 : Int) <= (nodes.length : Int) /\ (nodes.length : Int) <= 7818749353073 := ⟨by omega, by omega⟩
 have ew : IntKind.wrap .i64 ((nodes.length : Int) - 1) = (nodes.length : Int) - 1 := qG (by omega) (by omega)
 refine Ev.suc.trans ?_
 simp only [Z78.c, Z78.w, decide_true, Bool.and_true, qB g1, Int.toNat_natCast, qB g2, qB g3, ew]
 rw [show ((nodes.length : Int) - 1).toNat = nodes.length - 1 from by omega]
 have n1 := qEc (to := List.replicate nodes.length 0) hn hk (fun x hx => (hl x hx).2) nodes.length ((List.replicate nodes.length false).set (nodes.length - 1) true) (by simp) (Nat.le_refl _)
 refine (n1 _).trans ?_
 have o1 := qJm (u := yH nodes nodes.length ((List.replicate nodes.length false).set (nodes.length - 1) true)) hn (by rw [qCP]; simp) hl nodes [] (List.replicate nodes.length 0) [] rfl (by simp) (fun w hw => (List.mem_replicate.1 hw).2) hk (by simp) (fun n => R (n + 1))
 rw [List.nil_append] at o1
 refine Iff.trans o1 ?_
 unfold vM
 rw [show nodes.length - 1 + 1 = nodes.length from by omega]
 exact Ev.s1 R _
theorem qDw {d : List qQ} {t : List qA} (h : ¬ yM d t < 0) : ∀ j, j < t.length -> (rd t j).1 = 1 -> (rd t j).2.2.2.2.2.2 = [] := by
 obtain ⟨h2, _, hlen, _⟩ := vK h
 unfold zN at h2
 split at h2
 ·cases hg : jI d t [] (List.replicate t.length false) with
  | none => rw [hg] at h2; cases h2
  | some r =>
   intro j hj h1
   have hx : rd t j ∈ t := by
    rw [rd, List.getD_eq_getElem?_getD, List.getElem?_eq_getElem hj]
    exact List.getElem_mem _
   obtain ⟨wide, w, h3, h4, h5⟩ := qCw (fun w hw => by cases hw) hg _ hx
   rcases (qIZ h3 h5).2 with h6 | h6 | h6
   ·exact List.eq_nil_of_length_eq_zero h6.2.1
   ·omega
   ·omega
 ·cases h2
theorem qC4 : ∀ {l pre : List qQ} {t : Int}, yK pre l t = true -> ∀ y ∈ l, 1 <= y.2
 | [], _, _, _, y, hy => by cases hy
 | x :: l, pre, t, h, y, hy => by
  rw [yK, Bool.and_eq_true, Bool.and_eq_true, Bool.and_eq_true, decide_eq_true_eq] at h
  rcases List.mem_cons.1 hy with rfl | hy
  ·exact h.1.1.2.1
  ·exact qC4 h.2 y hy
theorem qC1 {d : List qQ} (h : vV d = true) {v : Int} (h0 : 0 <= v) (h1 : v <= (d.length : Int) - 1) : 1 <= (rd d v.toNat).2 := by
 unfold vV at h
 rw [Bool.and_eq_true] at h
 refine qC4 h.2 _ ?_
 rw [rd, List.getD_eq_getElem?_getD, List.getElem?_eq_getElem (by omega)]
 exact List.getElem_mem _
theorem qEi {v top : Int} : ∀ {ys : List qA} {to : List Int} {N : List qA} {y : qA}, y ∈ (jN v top ys to N).2 -> y ∈ N \/ ∃ x ∈ ys, ∃ to', y = zT to' x
 | [], to, N, y, h => .inl h
 | x :: ys, to, N, y, h => by
  rw [jN] at h
  split at h
  ·exact (qEi h).imp id fun ⟨x', h1, h2⟩ => ⟨x', List.mem_cons_of_mem _ h1, h2⟩
  ·rcases qEi h with h1 | ⟨x', h1, h2⟩
   ·rcases List.mem_append.1 h1 with h1 | h1
    ·exact .inl h1
    ·rw [List.mem_singleton] at h1; exact .inr ⟨x, List.mem_cons_self, to, h1⟩
   ·exact .inr ⟨x', List.mem_cons_of_mem _ h1, h2⟩
theorem qCk {v top : Int} : ∀ {ys : List qA} {to : List Int} {N : List qA}, (jN v top ys to N).2.length <= N.length + ys.length
 | [], to, N => by simp [jN]
 | x :: ys, to, N => by
  rw [jN, List.length_cons]
  split
  ·have := qCk (v := v) (top := top) (ys := ys) (to := to ++ [top]) (N := N); omega
  ·have := qCk (v := v) (top := top) (ys := ys) (to := to ++ [(N.length : Int)]) (N := N ++ [zT to x]); simp at this; omega
theorem qHx {d e f : Int} {g : List qA} {c h : List Int} {i j : List qA} {k l m o p : Int} {N : Nat} (hN : N <= 4096) : ∀ (ys done : List Int), done.length + ys.length = N -> jF c.length ys = true ->
  ∀ Kx : Nat -> Int -> Int -> Int -> List qA -> List Int -> List Int -> List Int -> List qA -> List qA -> Int -> Int -> Int -> Int -> Int -> Prop,
  (Ev (fun n => Z68.l14 n d e f g c h i j k l m o p done.length (done ++ ys) (Kx n)) ↔ Ev (fun n => Kx n d e f g c h (done ++ ys.map fun k => rd c k.toNat) i j k l m o p))
 | [], done, hN', hk, Kx => by
  refine Ev.suc.trans ?_
  simp only [List.length_nil, Nat.add_zero] at hN'
  have el : (done ++ ([] : List Int)).length = done.length := by simp
  simp (disch := omega) only [Z68.l14, Z68.l14.b, if_neg, decide_eq_true_eq, List.map_nil, el]
  exact Ev.s0 fun n => Kx n d e f g c h (done ++ []) i j k l m o p
 | y :: ys, done, hN', hk, Kx => by
  rw [jW] at hk
  rw [List.length_cons] at hN'
  have el : (done ++ y :: ys).length = done.length + (ys.length + 1) := by simp
  have er : rd (done ++ y :: ys) done.length = y := qDx
  have es : ∀ w : Int, (done ++ y :: ys).set done.length w = (done ++ [w]) ++ ys := fun w => by
   rw [List.set_append_right _ _ (Nat.le_refl _), Nat.sub_self, List.set_cons_zero]; simp
  refine Ev.suc.trans ?_
  simp (disch := omega) only [Z68.l14, Z68.l14.b, if_pos, decide_eq_true_eq, qB, Int.toNat_natCast, er, qG, el, es]
  have := qHx (d := d) (e := e) (f := f) (g := g) (c := c) (h := h) (i := i) (j := j) (k := k) (l := l) (m := m) (o := o) (p := p) hN ys (done ++ [rd c y.toNat]) (by simp; omega) hk.2 (fun n => Kx (n + 1))
  rw [show ((done ++ [rd c y.toNat]).length : Int) = (done.length : Int) + 1 from by simp] at this
  rw [this, List.append_assoc, List.singleton_append, List.map_cons]
  exact Ev.s0 fun n => Kx n d e f g c h (done ++ rd c y.toNat :: ys.map fun k => rd c k.toNat) i j k l m o p
theorem qJH {v top : Int} {t f : List qA} (ht : t.length <= 1000) : ∀ (ys : List qA) (to : List Int) (N : List qA), t.drop to.length = ys -> to.length + ys.length <= 1000 -> N.length + ys.length <= 2000 -> (∀ y ∈ ys, qDi y) -> jH to.length ys ->
  ∀ Kx : Nat -> List qA -> List Int -> List qA -> Prop,
  (Ev (fun n => Z68.l8 n v top to.length N to f t (Kx n)) ↔ Ev (fun n => Kx n (jN v top ys to N).2 (jN v top ys to N).1 f))
 | [], to, N, h, hl, hN, hy, hk, Kx => by
  have hle := List.drop_eq_nil_iff.1 h
  refine Ev.suc.trans ?_
  simp (disch := omega) only [Z68.l8, Z68.l8.b, if_neg, decide_eq_true_eq, jN]
  exact Ev.s3 Kx _ _ _
 | x :: ys, to, N, h, hl, hN, hy, hk, Kx => by
  have h' : t.drop (to.length : Int).toNat = x :: ys := h
  obtain ⟨e1, e2, e3⟩ := qD h' (by omega)
  have e2' : rd t to.length = x := e2
  obtain ⟨hxw, hxk⟩ := hy x List.mem_cons_self
  rw [List.length_cons] at hl hN
  have ew : IntKind.wrap .i64 ((to.length : Int) + 1) = ((to.length + 1 : Nat) : Int) := by rw [qG (by omega) (by omega)]; simp
  have nxt : ∀ (u : Int) (N' : List qA), N'.length <= N.length + 1 -> ∀ Kx : Nat -> List qA -> List Int -> List qA -> Prop, ((Ev fun n => Z68.l8 n v top (IntKind.wrap .i64 ((to.length : Int) + 1)) N' (to ++ [u]) f t (Kx n)) ↔ Ev fun n => Kx n (jN v top ys (to ++ [u]) N').2 (jN v top ys (to ++ [u]) N').1 f) := fun u N' hN' Kx => by
   have := qJH (v := v) (top := top) (f := f) ht ys (to ++ [u]) N' (by rw [<- e3, List.length_append]; rfl) (by simp; omega) (by omega) (fun y hy' => hy y (List.mem_cons_of_mem _ hy')) (by rw [List.length_append]; exact hk.2) Kx
   rw [ew]
   rw [List.length_append] at this
   exact this
  have g2 : ∀ u : Int, to.length + ([u] : List Int).length <= 7818749353073 := fun u => by simp only [List.length_cons, List.length_nil]; omega
  have g3 : ∀ y : qA, N.length + ([y] : List qA).length <= 790660046940 := fun y => by simp only [List.length_cons, List.length_nil]; omega
  have into : (Ev fun n => Z68.j7 (fun i j k l m o p => Z68.l8 n i j k l m o p (Kx (n + 1))) (Z68.l14 n) x.1 x.2.1 x.2.2.1 x.2.2.2.1 x.2.2.2.2.1 x.2.2.2.2.2.1 x.2.2.2.2.2.2 v top to.length N to f t) ↔
    Ev fun n => Kx n (jN v top ys (to ++ [(N.length : Int)]) (N ++ [zT to x])).2 (jN v top ys (to ++ [(N.length : Int)]) (N ++ [zT to x])).1 f := by
   have kb := qHx (d := v) (e := top) (f := to.length) (g := N) (c := to) (h := x.2.2.2.2.2.1) (i := f) (j := t) (k := x.1) (l := x.2.1) (m := x.2.2.1) (o := x.2.2.2.1) (p := x.2.2.2.2.1) hxk x.2.2.2.2.2.2 [] (by simp) hk.1
   rw [List.nil_append, List.nil_append] at kb
   simp only [Z68.j7]
   refine (kb _).trans ?_
   simp only [jT (g2 _), jT (g3 _)]
   have := nxt (N.length : Int) (N ++ [zT to x]) (by simp) (fun n => Kx (n + 1))
   refine Iff.trans this ?_
   exact Ev.s3 Kx _ _ _
  refine Ev.suc.trans ?_
  simp (disch := omega) only [Z68.l8, Z68.l8.b, if_pos, decide_eq_true_eq, qB, Int.toNat_natCast, e2']
  refine (qAI hxw (by omega) _).trans ?_
  simp only [Ev.iteI, Z68.j8, jT (g2 _)]
  rw [jN]
  by_cases h1 : x.1 = 1
  ·rw [if_pos (by simpa using h1)]
   by_cases h2 : x.2.1 = v
   ·rw [if_pos (by simpa using h2), if_pos ⟨h1, h2⟩, nxt top N (by omega) (fun n => Kx (n + 1))]
    exact Ev.s3 Kx _ _ _
   ·rw [if_neg (by simpa using h2), if_neg (fun hh => h2 hh.2)]
    exact into
  ·rw [if_neg (by simpa using h1)]
   simp only [Bool.false_eq_true, if_false]
   rw [if_neg (fun hh => h1 hh.1)]
   exact into
def qGB (p : Int) : List Int -> List Int
 | [] => []
 | y :: r => if y = p then qGB p r else y :: qGB y r
def vW : List Int -> List Int
 | [] => []
 | a :: r => a :: qGB a r
theorem qEu : ∀ {l : List Int} {p : Int}, (qGB p l).length <= l.length
 | [], _ => Nat.le_refl _
 | y :: r, p => by
  unfold qGB
  have h1 := qEu (l := r) (p := p)
  have h2 := qEu (l := r) (p := y)
  split <;> simp only [List.length_cons] <;> omega
theorem qEd {z : Int} : ∀ {l : List Int} {p : Int}, z ∈ p :: qGB p l ↔ z ∈ p :: l
 | [], _ => Iff.rfl
 | y :: r, p => by
  unfold qGB
  split
  ·rename_i h
   subst h
   rw [qEd]; simp
  ·have := qEd (z := z) (l := r) (p := y)
   rw [List.mem_cons, this, <- List.mem_cons]
theorem qGl {z : Int} : ∀ {l : List Int}, z ∈ vW l ↔ z ∈ l
 | [] => Iff.rfl
 | a :: l => qEd
theorem qGA : ∀ {l : List Int}, (vW l).length <= l.length
 | [] => Nat.le_refl _
 | a :: l => by have := qEu (l := l) (p := a); simp only [vW, List.length_cons]; omega
theorem qI2 (l : List Int) : (srt l).length = l.length := by simp [srt]
theorem qMG {z : Int} {l : List Int} : z ∈ srt l ↔ z ∈ l := by simp [srt]
theorem qMs {l : List Int} (hl : l.length <= 1099511627776) (R : Nat -> List Int -> Prop) : Ev (fun n => Z65.c n l (R n)) ↔ Ev (fun n => R n (srt l)) := by
 refine Ev.suc.trans ?_
 simp (disch := omega) only [Z65.c, Z65.w, jT, Ev.s1 R]
theorem qAJ {s : List Int} (hs : s.length <= 1099511627776) {lo : Nat} : ∀ (ys : List Int) (k2 k : Nat) (row : List Int), s.drop (lo + k2) = ys -> 1 <= k2 -> row.length = s.length -> (∀ i, lo + k2 - 1 <= i -> rd row i = rd s i) -> k <= lo + k2 - 1 -> lo + k2 <= s.length ->
  ∀ Kx : Nat -> Int -> List Int -> Prop, (∀ (k' : Nat) (row' : List Int), row'.length = s.length -> k' <= s.length -> row'.take k' = row.take k ++ qGB (rd s (lo + k2 - 1)) ys -> Ev (fun n => Kx n k' row')) ->
  Ev (fun n => Z59.l9 n lo s.length k k2 row (Kx n))
 | [], k2, k, row, h, h1, hl, he, hk, hb, Kx, hx => by
  have := List.drop_eq_nil_iff.1 h
  refine Ev.succ ?_
  simp only [Z59.l9, Z59.l9.b]
  refine Ev.neg (by simp; omega) (hx k row hl (by omega) ?_).shift
  rw [qGB, List.append_nil]
 | y :: ys, k2, k, row, h, h1, hl, he, hk, hb, Kx, hx => by
  obtain ⟨c1, c2, c3⟩ := qD (x := ((lo + k2 : Nat) : Int)) (by rw [Int.toNat_natCast]; exact h) (by omega)
  rw [Int.toNat_natCast] at c2
  have c3' : s.drop (lo + (k2 + 1)) = ys := by rw [show (((lo + k2 : Nat) : Int) + 1).toNat = lo + (k2 + 1) from by omega] at c3; exact c3
  have r1 := he (lo + k2) (by omega)
  have r2 := he (lo + k2 - 1) (by omega)
  refine Ev.succ ?_
  simp only [Z59.l9, Z59.l9.b]
  rw [qG (x := (k2 : Int) - 1) (by omega) (by omega), qG (x := (k2 : Int) + 1) (by omega) (by omega), qG (x := (k : Int) + 1) (by omega) (by omega)]
  rw [show lo + ((k2 : Int) - 1).toNat = lo + k2 - 1 from by omega, Int.toNat_natCast, Int.toNat_natCast, r1, r2, c2]
  have e2 : (k2 : Int) + 1 = ((k2 + 1 : Nat) : Int) := by omega
  have e1 : (k : Int) + 1 = ((k + 1 : Nat) : Int) := by omega
  rw [e1, e2]
  refine Ev.pos (by simp; omega) (Ev.grd (by simp; omega) (Ev.grd (by simp; omega) ?_))
  by_cases hy : y = rd s (lo + k2 - 1)
  ·refine Ev.neg (by simpa using hy) ?_
   have ep : rd s (lo + (k2 + 1) - 1) = rd s (lo + k2 - 1) := by rw [show lo + (k2 + 1) - 1 = lo + k2 from by omega, c2, hy]
   refine qAJ hs ys (k2 + 1) k row c3' (by omega) hl (fun i hi => he i (by omega)) (by omega) (by omega) (fun n => Kx (n + 1)) fun k' row' g1 g2 g3 => (hx k' row' g1 g2 ?_).shift
   rw [g3, ep, qGB, if_pos hy]
  ·refine Ev.pos (by simpa using hy) (Ev.grd (by simp; omega) (Ev.grd (by simp; omega) ?_))
   have ep : rd s (lo + (k2 + 1) - 1) = y := by rw [show lo + (k2 + 1) - 1 = lo + k2 from by omega, c2]
   refine qAJ hs ys (k2 + 1) (k + 1) (row.set k y) c3' (by omega) (by rw [List.length_set]; exact hl) (fun i hi => ?_) (by omega) (by omega) (fun n => Kx (n + 1)) fun k' row' g1 g2 g3 => (hx k' row' g1 g2 ?_).shift
   ·rw [<- he i (by omega)]
    simp only [rd, List.getD_eq_getElem?_getD, List.getElem?_set]
    rw [if_neg (by omega)]
   ·rw [g3, ep, qGB, if_neg hy]
    have := wH (l := row) (x := (k : Int)) (v := y) (by omega) (by omega)
    rw [show ((k : Int) + 1).toNat = k + 1 from by omega, Int.toNat_natCast] at this
    rw [this, List.append_assoc]; rfl
theorem qDQ {s : List Int} (hs : s.length <= 1099511627776) : ∀ (ys : List Int) (k : Nat), s.drop k = ys -> 1 <= k -> k <= s.length -> vW s = s.take k ++ qGB (rd s (k - 1)) ys -> ∀ (Kx : Nat -> List Int -> Prop) (Kr : Nat -> Nat -> Nat -> List Int -> Prop),
  (vW s = s -> Ev (fun n => Kx n s)) -> (∀ a (k : Nat) (row : List Int), row.take k = vW s -> Ev (fun n => Kr n a k row)) ->
  Ev (fun n => Z59.l4 n s k (Kx n) (Kr n))
 | [], k, h, h1, hk, hc, Kx, Kr, hx, hr => by
  have := List.drop_eq_nil_iff.1 h
  refine Ev.succ ?_
  simp only [Z59.l4, Z59.l4.b]
  refine Ev.neg (by simp; omega) (hx ?_).shift
  rw [hc, qGB, List.append_nil, List.take_of_length_le (by omega)]
 | y :: ys, k, h, h1, hk, hc, Kx, Kr, hx, hr => by
  obtain ⟨c1, c2, c3⟩ := qD (x := (k : Int)) (by rw [Int.toNat_natCast]; exact h) (by omega)
  rw [Int.toNat_natCast] at c2
  have c3' : s.drop (k + 1) = ys := by rw [show ((k : Int) + 1).toNat = k + 1 from by omega] at c3; exact c3
  refine Ev.succ ?_
  simp only [Z59.l4, Z59.l4.b]
  rw [qG (x := (k : Int) - 1) (by omega) (by omega), qG (x := (k : Int) + 1) (by omega) (by omega)]
  rw [show ((k : Int) - 1).toNat = k - 1 from by omega, Int.toNat_natCast, Int.toNat_natCast, c2]
  refine Ev.pos (by simp; omega) (Ev.grd (by simp; omega) (Ev.grd (by simp; omega) ?_))
  by_cases hy : y = rd s (k - 1)
  ·refine Ev.pos (by simpa using hy) (Ev.grd (by simp; omega) ?_)
   have ep : rd s (k + 1 - 1) = rd s (k - 1) := by rw [show k + 1 - 1 = k from by omega, c2, hy]
   have := qAJ hs (lo := k) ys 1 k s c3' (by omega) rfl (fun _ _ => rfl) (by omega) (by omega) (fun n y65 y66 => grd ((decide (0 <= y65) && true) && decide (y65 <= (y66.length : Int))) (let t67 : List Int := List.take (Int.toNat y65) y66 ++ List.replicate ((Int.toNat (y66.length : Int)) - (Int.toNat y65)) 0 ++ List.drop (Int.toNat (y66.length : Int)) y66; grd ((decide (0 <= y65) && decide (y65 <= (t67.length : Int))) && decide (0 <= y65)) (Kr (n + 1) 0 (Int.toNat y65) t67))) fun k' row' g1 g2 g3 => ?_
   ·exact this
   ·rw [Int.toNat_natCast, Int.toNat_natCast]
    refine Ev.grd (by simp; omega) (Ev.grd (by simp; omega) (hr 0 k' _ ?_).shift)
    rw [List.append_assoc, List.take_left' (by rw [List.length_take]; omega), g3, ep, hc, qGB, if_pos hy]
  ·refine Ev.neg (by simpa using hy) ?_
   have e1 : (k : Int) + 1 = ((k + 1 : Nat) : Int) := by omega
   rw [e1]
   refine qDQ hs ys (k + 1) c3' (by omega) (by omega) ?_ (fun n => Kx (n + 1)) (fun n => Kr (n + 1)) (fun e => (hx e).shift) (fun a k row e => (hr a k row e).shift)
   rw [hc, qGB, if_neg hy, show k + 1 - 1 = k from by omega, c2, List.take_succ_eq_append_getElem (by omega), List.append_assoc]
   have : s[k]'(by omega) = y := by rw [<- c2, rd, List.getD_eq_getElem?_getD, List.getElem?_eq_getElem (by omega)]; rfl
   rw [this]; rfl
theorem qIv {s : List Int} (hs : s.length <= 1099511627776) (R : Nat -> List Int -> Prop) (hR : Ev fun n => R n (vW s)) : Ev (fun n => Z59.c n s (R n)) := by
 refine Ev.succ ?_
 simp only [Z59.c, Z59.w]
 by_cases h : s.length < 2
 ·refine Ev.pos (by simp; omega) ?_
  have : vW s = s := by
   match s, h with
   | [], _ => rfl
   | [a], _ => rfl
  rw [this] at hR; exact hR.shift
 ·refine Ev.neg (by simp; omega) ?_
  refine qDQ hs (s.drop 1) 1 rfl (by omega) (by omega) ?_ (fun n => R (n + 1)) (fun n y73 y74 y75 => R (n + 1) (List.take y74 y75)) (fun e => by rw [e] at hR; exact hR.shift) (fun a k row e => by rw [e]; exact hR.shift)
  match s, h with
  | a :: b, _ => rfl
def qHG (t : List qA) (v : Int) : Bool := t.any fun x => decide (x.1 = 1) && decide (x.2.1 = v)
def vsT : List qA -> List Int
 | [] => []
 | x :: r => if x.1 = 1 then x.2.1 :: vsT r else vsT r
theorem qJu {z : Int} : ∀ {t : List qA}, z ∈ vsT t ↔ qHG t z = true
 | [] => by simp [vsT, qHG]
 | x :: r => by
  have ih := qJu (z := z) (t := r)
  have hc : qHG (x :: r) z = true ↔ (x.1 = 1 /\ x.2.1 = z) \/ qHG r z = true := by
   unfold qHG
   rw [List.any_cons, Bool.or_eq_true, Bool.and_eq_true, decide_eq_true_eq, decide_eq_true_eq]
  rw [hc]
  unfold vsT
  split
  ·rename_i h
   rw [List.mem_cons, ih]
   exact or_congr ⟨fun e => ⟨h, e.symm⟩, fun e => e.2.symm⟩ Iff.rfl
  ·rename_i h
   rw [ih]
   exact ⟨.inr, fun e => e.elim (fun e => absurd e.1 h) id⟩
theorem qF7 : ∀ {t : List qA}, (vsT t).length <= t.length
 | [] => Nat.le_refl _
 | x :: r => by
  have := qF7 (t := r)
  unfold vsT
  split
  ·simp only [List.length_cons]; omega
  ·simp only [List.length_cons]; omega
theorem qIO {t : List qA} (ht : t.length <= 1048576) : ∀ (ys : List qA) (x : Int) (o : List Int), t.drop x.toNat = ys -> 0 <= x -> o.length + ys.length <= 1048576 -> ∀ (Kx : Nat -> List Int -> Prop),
  Ev (fun n => Kx n (o ++ vsT ys)) -> Ev (fun n => Z19.l3 n t t.length x o (Kx n))
 | [], x, o, h, h0, ho, Kx, hx => by
  have := qO h h0
  refine Ev.succ ?_
  simp only [Z19.l3, Z19.l3.b]
  rw [vsT, List.append_nil] at hx
  exact Ev.neg (by simp; omega) hx.shift
 | y :: ys, x, o, h, h0, ho, Kx, hx => by
  obtain ⟨e1, e2, e3⟩ := qD h h0
  rw [List.length_cons] at ho
  refine Ev.succ ?_
  simp only [Z19.l3, Z19.l3.b]
  rw [e2, qG (x := x + 1) (by omega) (by omega)]
  unfold vsT at hx
  refine Ev.pos (by simp; omega) (Ev.grd (by simp; omega) ?_)
  by_cases h1 : y.1 = 1
  ·rw [if_pos h1] at hx
   refine Ev.pos (by simpa using h1) (Ev.grd (by simp; omega) (qIO ht ys (x + 1) (o ++ [y.2.1]) e3 (by omega) (by simp; omega) (fun n => Kx (n + 1)) ?_))
   rw [List.append_assoc]; exact hx.shift
  ·rw [if_neg h1] at hx
   exact Ev.neg (by simpa using h1) (qIO ht ys (x + 1) o e3 (by omega) (by omega) (fun n => Kx (n + 1)) hx.shift)
theorem qNr {t : List qA} (ht : t.length <= 1048576) (R : Nat -> List Int -> Prop) (hR : Ev fun n => R n (vW (srt (vsT t)))) : Ev (fun n => Z19.c n t (R n)) := by
 have hv := qF7 (t := t)
 refine Ev.succ ?_
 simp only [Z19.c, Z19.w]
 refine qIO ht t 0 [] rfl (by omega) (by simp; omega) (fun n y19 => _) ?_
 rw [List.nil_append, qMs (by omega)]
 exact qIv (by rw [qI2]; omega) _ hR.shift
theorem qFt {l : List Int} {v : Int} (hl : l.length <= 1099511627776) : ∀ (ys : List Int) (x : Int), l.drop x.toNat = ys -> 0 <= x -> ∀ (Kx : Nat -> Prop) (Kr : Nat -> Int -> Prop),
  (Ev (fun n => Z64.l2 n l v l.length x (Kx n) (Kr n)) ↔ if qR (fun y => decide (v = y)) ys x < 0 then Ev Kx else Ev (fun n => Kr n (qR (fun y => decide (v = y)) ys x)))
 | [], x, h, h0, Kx, Kr => by
  have := qO h h0
  rw [qR, if_pos (by decide)]
  refine Ev.suc.trans ?_
  simp (disch := omega) only [Z64.l2, Z64.l2.b, if_neg, decide_eq_true_eq, Ev.s0 Kx]
 | y :: ys, x, h, h0, Kx, Kr => by
  obtain ⟨e1, e2, e3⟩ := qD h h0
  refine Ev.suc.trans ?_
  simp (disch := omega) only [Z64.l2, Z64.l2.b, if_pos, decide_eq_true_eq, qB, e2, qG, Ev.iteI]
  rw [qFt hl ys (x + 1) e3 (by omega) (fun n => Kx (n + 1)) (fun n => Kr (n + 1)), Ev.s0 Kx, Ev.s1 Kr, Ev.s1 Kr, qR]
  simp only [decide_eq_true_eq]
  split
  ·rw [if_neg (by omega)]
  ·rfl
theorem qFL {l : List Int} {v : Int} (hl : l.length <= 1099511627776) (R : Nat -> Bool -> Prop) : Ev (fun n => Z61.c n l v (R n)) ↔ Ev (fun n => R n (l.any fun y => decide (v = y))) := by
 refine Ev.suc.trans ?_
 simp only [Z61.c, Z61.w]
 refine Ev.suc.trans ?_
 simp only [Z64.c, Z64.w]
 rw [qFt hl l 0 rfl (by omega) (fun n => R (n + 1 + 1) (decide ((-1 : Int) >= 0))) (fun n c => R (n + 1 + 1) (decide (c >= 0)))]
 rw [<- xF (p := fun y => decide (v = y)) (l := l) (x := 0) (by omega)]
 split
 ·rename_i h
  rw [xE (by omega) h]
  exact (Ev.s1 (fun n => R (n + 1)) _).trans (Ev.s1 R _)
 ·exact (Ev.s1 (fun n => R (n + 1)) _).trans (Ev.s1 R _)
def qBz (t : List qA) (v : Int) (u : List qA) : List qA := (qE (vM (jN v ((u.length : Int) - 1) t [] u).2 ((jN v ((u.length : Int) - 1) t [] u).2.length - 1)) [] []).2
def kO (d : List qQ) (t : List qA) (v : Int) (u : List qA) : List qA × Bool :=
 if vB d t < 0 \/ ¬ (0 <= v /\ v <= (d.length : Int) - 1) \/ vB d u ≠ (rd d v.toNat).2 then ([], false)
 else if 400 < (qBz t v u).length then ([], false) else (qBz t v u, true)
section
variable {d : List qQ} {t u : List qA} {v : Int}
theorem qHF : qHG t v = true ↔ ∃ j, j < t.length /\ isV v (rd t j) := by
 unfold qHG
 rw [List.any_eq_true]
 constructor
 ·rintro ⟨x, hx, h⟩
  rw [Bool.and_eq_true, decide_eq_true_eq, decide_eq_true_eq] at h
  obtain ⟨j, hj, rfl⟩ := List.getElem_of_mem hx
  exact ⟨j, hj, by rw [rd, List.getD_eq_getElem?_getD, List.getElem?_eq_getElem hj]; exact h⟩
 ·rintro ⟨j, hj, h⟩
  refine ⟨rd t j, ?_, by rw [Bool.and_eq_true, decide_eq_true_eq, decide_eq_true_eq]; exact h⟩
  rw [rd, List.getD_eq_getElem?_getD, List.getElem?_eq_getElem hj]
  exact List.getElem_mem _
theorem qBy (ht : ¬ yM d t < 0) (hu : ¬ yM d u < 0) {J : List Int × List qA} (hJ : jN v ((u.length : Int) - 1) t [] u = J) :
  J.1.length = t.length /\ rd J.1 (t.length - 1) = (J.2.length : Int) - 1 /\ 0 < J.2.length /\ J.2.length <= 800 /\ jH 0 J.2 /\ (vM J.2 (J.2.length - 1) = J.2 /\ wZ J.2 /\ qHG t v = true \/ vM J.2 (J.2.length - 1) = t /\ qHG t v = false) := by
 obtain ⟨_, t1, t400, tk⟩ := vK ht
 obtain ⟨_, u1, u400, uk⟩ := vK hu
 have hT : wZ t := wD ht
 have hU : wZ u := wD hu
 have hX := JX.of (v := v) tk uk (by omega)
 have hlen := qCk (v := v) (top := (u.length : Int) - 1) (ys := t) (to := []) (N := u)
 rw [hJ] at hX hlen
 cases hv : qHG t v with
 | true =>
  obtain ⟨x1, x2⟩ := hX.used (by omega) (by omega) hT hU (qDw ht) (qHF.1 hv)
  have hge := hX.ge
  exact ⟨hX.len, x1, by omega, by omega, hX.nk, .inl ⟨qA2 hX.nk (by omega) x2, x2, rfl⟩⟩
 | false =>
  have hn : ∀ y ∈ t, ¬ isV v y := fun y hy hh => by
   have : qHG t v = true := by
    unfold qHG
    rw [List.any_eq_true]
    exact ⟨y, hy, by rw [Bool.and_eq_true, decide_eq_true_eq, decide_eq_true_eq]; exact hh⟩
   rw [hv] at this; cases this
  obtain ⟨r1, r2, r3, r4, r5⟩ := qKS (v := v) (u := u) tk (by omega) hT hn (top := (u.length : Int) - 1) (N := J.2) (to := J.1) hJ
  exact ⟨r4, r1, r2, by omega, hX.nk, .inr ⟨r3, rfl⟩⟩
theorem qKT (hd : d.length <= 1099511627776) (gt : ∀ x : qA, x ∈ t -> Wd x.2.2.2.2.2.1 /\ x.2.2.2.2.2.2.length <= 1099511627776) (gu : ∀ x : qA, x ∈ u -> Wd x.2.2.2.2.2.1 /\ x.2.2.2.2.2.2.length <= 1099511627776) (R : Nat -> List qA -> Bool -> Prop) :
  Ev (fun n => Z68.c n d t v u (R n)) ↔ Ev (fun n => R n (kO d t v u).1 (kO d t v u).2) := by
 have no : (kO d t v u) = ([], false) -> (Ev (fun n => R (n + 1) [] false) ↔ Ev (fun n => R n (kO d t v u).1 (kO d t v u).2)) := fun e => by rw [e]; exact Ev.s2 R _ _
 refine Ev.suc.trans ?_
 simp only [Z68.c, Z68.w]
 refine (qCt hd gu _).trans ((qCt hd gt _).trans ?_)
 simp only [Ev.iteI, Z68.j9, if_true]
 by_cases h1 : vB d t < 0
 ·rw [if_neg (by simpa using h1)]
  exact no (by unfold kO; rw [if_pos (.inl h1)])
 rw [if_pos (by simpa using h1)]
 obtain ⟨hdo, ht⟩ := kH h1
 have h60 := qJ5 hdo
 by_cases h2 : vB d u < 0
 ·rw [if_neg (by simpa using h2)]
  refine no ?_
  unfold kO
  by_cases h3 : 0 <= v /\ v <= (d.length : Int) - 1
  ·have := qC1 hdo h3.1 h3.2
   rw [if_pos (.inr (.inr (by omega)))]
  ·rw [if_pos (.inr (.inl h3))]
 rw [if_pos (by simpa using h2)]
 obtain ⟨_, hu⟩ := kH h2
 rw [qG (x := (d.length : Int) - 1) (by omega) (by omega)]
 refine (xY _).trans ?_
 simp only [Ev.iteI]
 by_cases h3 : 0 <= v /\ v <= (d.length : Int) - 1
 rotate_left
 ·rw [if_neg (by simp only [decide_eq_false h3]; decide)]
  exact no (by unfold kO; rw [if_pos (.inr (.inl h3))])
 rw [if_pos (by simp only [decide_eq_true h3]; decide)]
 have g0 : 0 <= v /\ v < (d.length : Int) := ⟨h3.1, by omega⟩
 simp only [qB g0, Ev.iteI]
 by_cases h4 : (rd d v.toNat).2 = vB d u
 rotate_left
 ·rw [if_pos (by simpa using h4)]
  exact no (by unfold kO; rw [if_pos (.inr (.inr (Ne.symm h4)))])
 rw [if_neg (by simpa using h4)]
 obtain ⟨_, t1, t400, tk⟩ := vK ht
 obtain ⟨_, u1, u400, uk⟩ := vK hu
 have hSt := qCI ht h60 fun x hx => (gt x hx).1
 have hSu := qCI hu h60 fun x hx => (gu x hx).1
 have lp := qJH (v := v) (top := (u.length : Int) - 1) (t := t) (f := []) (by omega) t [] u rfl (by simp; omega) (by omega) (fun y hy => (hSt y hy).len) tk
 have lenJ : ∀ y ∈ (jN v ((u.length : Int) - 1) t [] u).2, qDi y := fun y hy => by
  rcases qEi hy with h | ⟨x, hx, to', rfl⟩
  ·exact (hSu y h).len
  ·refine ⟨(hSt x hx).len.1, ?_⟩
   show (List.map _ _).length <= 4096
   rw [List.length_map]; exact (hSt x hx).len.2
 have gz : ([] : List qA).length + u.length <= 790660046940 := by simp; omega
 simp only [jT gz, List.nil_append]
 rw [qG (x := (u.length : Int) - 1) (by omega) (by omega)]
 refine (lp _).trans ?_
 generalize hJ : jN v ((u.length : Int) - 1) t [] u = J at lenJ
 obtain ⟨f1, f2, f3, f4, f5, f6⟩ := qBy (v := v) ht hu hJ
 have ew : IntKind.wrap .i64 ((J.1.length : Int) - 1) = ((t.length - 1 : Nat) : Int) := by rw [f1, qG (by omega) (by omega)]; omega
 have g1 : (0 : Int) <= ((t.length - 1 : Nat) : Int) /\ ((t.length - 1 : Nat) : Int) < (J.1.length : Int) := ⟨by omega, by omega⟩
 simp only [ew, qB g1, Int.toNat_natCast, f2]
 refine (qIn (by omega) f3 f5 lenJ _).trans ?_
 have left : jH 0 (vM J.2 (J.2.length - 1)) /\ 0 < (vM J.2 (J.2.length - 1)).length /\ (vM J.2 (J.2.length - 1)).length <= 800 /\ (∀ y ∈ vM J.2 (J.2.length - 1), qDi y) /\ wZ (vM J.2 (J.2.length - 1)) := by
  rcases f6 with ⟨e, e2, _⟩ | ⟨e, _⟩
  ·rw [e]; exact ⟨f5, f3, f4, lenJ, e2⟩
  ·rw [e]; exact ⟨tk, by omega, by omega, fun y hy => (hSt y hy).len, wD ht⟩
 have hN : qBz t v u = (qE (vM J.2 (J.2.length - 1)) [] []).2 := by unfold qBz; rw [hJ]
 generalize vM J.2 (J.2.length - 1) = M at left hN
 obtain ⟨m1, m2, m3, m4, m5⟩ := left
 obtain ⟨s1, s2, _, _⟩ := qAd m1 m2 m5
 have sl := vP (ys := M) (to := []) (a := [])
 simp only [List.length_nil, Nat.zero_add] at sl
 refine (qIm (by omega) m4 m1 _).trans ?_
 simp only [Ev.iteI, decide_eq_true_eq, gt_iff_lt]
 have eP : kO d t v u = if 400 < (qE M [] []).2.length then ([], false) else ((qE M [] []).2, true) := by
  unfold kO
  rw [if_neg (by rintro (h | h | h); exact h1 h; exact h h3; exact h h4.symm), hN]
 by_cases hl : 400 < (qE M [] []).2.length
 ·rw [if_pos (by omega)]
  exact no (by rw [eP, if_pos hl])
 ·rw [if_neg (by omega)]
  have e1 : IntKind.wrap .i64 (((qE M [] []).1.length : Int) - 1) = ((M.length - 1 : Nat) : Int) := by rw [sl.2, qG (by omega) (by omega)]; omega
  have e2 : IntKind.wrap .i64 (((qE M [] []).2.length : Int) - 1) = ((qE M [] []).2.length : Int) - 1 := qG (by omega) (by omega)
  have g3 : (0 : Int) <= ((M.length - 1 : Nat) : Int) /\ ((M.length - 1 : Nat) : Int) < ((qE M [] []).1.length : Int) := ⟨by omega, by rw [sl.2]; omega⟩
  simp only [e1, e2, qB g3, Int.toNat_natCast, s1, decide_true, Bool.not_true, Bool.false_eq_true, if_false]
  rw [eP, if_neg hl]
  exact Ev.s2 R _ _
end
theorem qGj (S : Nat -> List qA -> List qQ -> Prop) : Ev (fun n => Z17.c n (S n)) ↔ Ev (fun n => S n [] []) := by
 refine Ev.suc.trans ?_
 simp only [Z17.c, Z17.w]
 exact Ev.s2 S _ _
theorem qKN {t : List qA} {v : Int} : ((vW (srt (vsT t))).any fun y => decide (v = y)) = qHG t v := by
 rw [Bool.eq_iff_iff, List.any_eq_true, <- qJu, <- qMG, <- qGl]
 constructor
 ·rintro ⟨y, hy, h⟩
  rw [decide_eq_true_eq] at h
  rw [h]; exact hy
 ·intro h
  exact ⟨v, h, by simp⟩
theorem qCK {v inst : Int} : ∀ {ys : List qA} {to : List Int} {a : List qA}, (∀ y ∈ ys, y.2.2.2.2.2.2.length <= 4096) -> (∀ y ∈ a, y.2.2.2.2.2.2.length <= 4096) -> ∀ x ∈ (vY v inst ys to a).2, x.2.2.2.2.2.2.length <= 4096
 | [], to, a, _, ha => by rw [vY]; exact ha
 | y :: ys, to, a, hy, ha => by
  rw [vY]
  split
  ·exact qCK (fun z hz => hy z (List.mem_cons_of_mem _ hz)) ha
  ·refine qCK (fun z hz => hy z (List.mem_cons_of_mem _ hz)) fun z hz => ?_
   rcases qEE hz with h | rfl
   ·exact ha z h
   ·show (List.map _ _).length <= 4096
    rw [List.length_map]; exact hy y List.mem_cons_self
section
variable {d : List qQ} {t u : List qA} {v : Int}
theorem qKV (hd : d.length <= 1099511627776) (gt : ∀ x ∈ t, Wd x.2.2.2.2.2.1) (gu : ∀ x ∈ u, Wd x.2.2.2.2.2.1) (R : Nat -> List qA -> Bool -> Prop) (hR : Ev fun n => R n (kO d t v u).1 (kO d t v u).2) :
  Ev (fun n => Z2.c n d t v u (R n)) := by
 have fin : ∀ r b, kO d t v u = (r, b) -> Ev fun n => R (n + 1) r b := fun r b e => by
  rw [e] at hR; exact (Ev.s2 R _ _).2 hR
 refine Ev.succ ?_
 simp only [Z2.c, Z2.w]
 refine (qDr hd _).2 ?_
 simp only [Ev.iteI, Z2.j1, if_true]
 by_cases h1 : vB d t < 0
 ·rw [if_neg (by simpa using h1)]
  exact fin _ _ (by unfold kO; rw [if_pos (.inl h1)])
 rw [if_pos (by simpa using h1)]
 obtain ⟨hdo, ht⟩ := kH h1
 have h60 := qJ5 hdo
 rw [qG (x := (d.length : Int) - 1) (by omega) (by omega)]
 refine (wR _).2 ?_
 simp only [Ev.iteI]
 by_cases h3 : 0 <= v /\ v <= (d.length : Int) - 1
 rotate_left
 ·rw [if_neg (by simp only [decide_eq_false h3]; decide)]
  exact fin _ _ (by unfold kO; rw [if_pos (.inr (.inl h3))])
 rw [if_pos (by simp only [decide_eq_true h3]; decide)]
 have g0 : 0 <= v /\ v < (d.length : Int) := ⟨h3.1, by omega⟩
 simp only [qB g0]
 refine (qDr hd _).2 ?_
 simp only [Ev.iteI]
 by_cases h4 : vB d u = (rd d v.toNat).2
 rotate_left
 ·rw [if_pos (by simpa using h4)]
  exact fin _ _ (by unfold kO; rw [if_pos (.inr (.inr h4))])
 rw [if_neg (by simpa using h4)]
 have h2 : ¬ vB d u < 0 := by have := qC1 hdo h3.1 h3.2; omega
 obtain ⟨_, hu⟩ := kH h2
 obtain ⟨_, t1, t400, tk⟩ := vK ht
 obtain ⟨_, u1, u400, uk⟩ := vK hu
 have hSt := qCI ht h60 gt
 have hSu := qCI hu h60 gu
 have hvl : (vW (srt (vsT t))).length <= 1099511627776 := by
  have e1 := qGA (l := srt (vsT t))
  have e2 := qI2 (vsT t)
  have e3 := qF7 (t := t)
  omega
 have eP : kO d t v u = if 400 < (qBz t v u).length then ([], false) else (qBz t v u, true) := by
  unfold kO
  rw [if_neg (by rintro (h | h | h); exact h1 h; exact h h3; exact h h4)]
 refine qNr (by omega) _ ?_
 refine (qFL hvl _).2 ?_
 rw [qKN]
 cases hv : qHG t v with
 | false =>
  have rf := qBy (v := v) ht hu rfl
  obtain ⟨_, _, _, _, _, rf⟩ := rf
  rw [hv] at rf
  have hN : qBz t v u = (qE t [] []).2 := by
   unfold qBz
   rcases rf with ⟨_, _, h⟩ | ⟨h, _⟩
   ·cases h
   ·rw [h]
  have sl := (vP (ys := t) (to := []) (a := [])).1
  simp only [List.length_nil, Nat.zero_add] at sl
  simp only [Bool.not_false, if_true]
  refine (qKR ht h60 gt _).2 ?_
  exact fin _ _ (by rw [eP, hN, if_neg (by omega)])
 | true =>
  simp only [Bool.not_true, Bool.false_eq_true, if_false]
  refine (qGj _).2 ?_
  have sl := vP (ys := u) (to := []) (a := [])
  simp only [List.length_nil, Nat.zero_add] at sl
  have hSa := qCA (ys := u) (to := []) (a := []) hSu (fun _ h => by cases h) uk (fun _ h => by cases h) (by simp; omega)
  obtain ⟨q1, q2, q3, q4⟩ := qAd uk (by omega) (wD hu)
  refine (qBL (v := -1) (inst := 0) (t := u) (a := []) ⟨by omega, by omega⟩ (by omega) (fun y hy => ⟨hSu y hy, (hSu y hy).len.1⟩) uk (fun _ h => by cases h) (by simp) _).2 ?_
  rw [qCJ (d := d) hSu]
  have e1 : IntKind.wrap .i64 (((qE u [] []).1.length : Int) - 1) = ((u.length - 1 : Nat) : Int) := by rw [sl.2, qG (by omega) (by omega)]; omega
  have g1 : (0 : Int) <= ((u.length - 1 : Nat) : Int) /\ ((u.length - 1 : Nat) : Int) < ((qE u [] []).1.length : Int) := ⟨by omega, by rw [sl.2]; omega⟩
  simp only [e1, qB g1, Int.toNat_natCast, q1]
  refine (qBL (v := v) (inst := ((qE u [] []).2.length : Int) - 1) (t := t) (a := (qE u [] []).2) ⟨by omega, by omega⟩ (by omega) (fun y hy => ⟨hSt y hy, (hSt y hy).len.1⟩) tk hSa (by omega) _).2 ?_
  cases hP : vY v (((qE u [] []).2.length : Int) - 1) t [] (qE u [] []).2 with
  | mk pl a =>
   cases hJ : jN v ((u.length : Int) - 1) t [] u with
   | mk to N =>
    obtain ⟨i1, i2, i3, i4, i5, i6, i7, i8, i9, i10, i11, i12, i13⟩ := qMy tk uk (by omega) (by omega) (wD ht) (wD hu) (qDw ht) (qHF.1 hv) hJ hP
    have hjl := qCk (v := v) (top := (u.length : Int) - 1) (ys := t) (to := []) (N := u)
    rw [hJ] at hjl
    simp only at hjl
    have sN := (vP (ys := N) (to := []) (a := [])).1
    simp only [List.length_nil, Nat.zero_add] at sN
    have hN : qBz t v u = a := by
     unfold qBz
     rw [hJ]
     simp only
     rw [i4, i5]
    have e2 : IntKind.wrap .i64 ((pl.length : Int) - 1) = ((t.length - 1 : Nat) : Int) := by rw [i12, qG (by omega) (by omega)]; omega
    have g2 : (0 : Int) <= ((t.length - 1 : Nat) : Int) /\ ((t.length - 1 : Nat) : Int) < (pl.length : Int) := ⟨by omega, by rw [i12]; omega⟩
    have ha : a.length <= 800 := by rw [i5]; omega
    have kl : ∀ x ∈ a, x.2.2.2.2.2.2.length <= 4096 := fun x hx => by
     have aS := qCK (v := v) (inst := ((qE u [] []).2.length : Int) - 1) (ys := t) (to := []) (a := (qE u [] []).2) (fun y hy => (hSt y hy).kl) (fun y hy => (hSa y hy).kl)
     rw [hP] at aS
     exact aS x hx
    simp only [e2, qB g2, Int.toNat_natCast, i6]
    rw [show (a.length : Int) - 1 = ((a.length - 1 : Nat) : Int) from by omega]
    refine (qHI (by omega) (by omega) i8 kl _).2 ?_
    rw [i9]
    simp only [Ev.iteI, decide_eq_true_eq, gt_iff_lt]
    by_cases hl : 400 < a.length
    ·rw [if_pos (by omega)]
     exact fin _ _ (by rw [eP, hN, if_pos hl])
    ·rw [if_neg (by omega)]
     exact fin _ _ (by rw [eP, hN, if_neg hl])
end
def qGz : Nat -> Int -> List UInt8 -> List UInt8
 | 0, _, out => out
 | f + 1, k, out => if k > 0 then qGz f (k / 10) (qX [48 + k % 10] ++ out) else out
theorem qFJ : ∀ (f : Nat) (k : Int) (out : List UInt8), (qGz f k out).length <= out.length + f
 | 0, k, out => Nat.le_refl _
 | f + 1, k, out => by
  rw [qGz]
  split
  ·have := qFJ f (k / 10) (qX [48 + k % 10] ++ out)
   have e : (qX [48 + k % 10]).length = 1 := rfl
   rw [List.length_append, e] at this
   omega
  ·omega
theorem qIt {k : Int} (h : 0 < k) (hb : k < 9223372036854775808) : IntKind.wrap .u8 (IntKind.wrap .i64 (48 + Int.tmod k 10)) = 48 + k % 10 := by
 rw [qIQ (by omega), qG (by omega) (by omega), qNq (by omega) (by omega)]
theorem qHs : ∀ (f : Nat) (k : Int) (out : List UInt8), k < 10 ^ f -> k < 9223372036854775808 -> out.length + f <= 1000 -> ∀ (Kx : Nat -> List UInt8 -> Prop),
  (Ev (fun n => Z39.l4 n k out (Kx n)) ↔ Ev (fun n => Kx n (qGz f k out)))
 | 0, k, out, h, hb, hl, Kx => by
  have h : k < 1 := h
  refine Ev.suc.trans ?_
  simp (disch := omega) only [Z39.l4, Z39.l4.b, if_neg, decide_eq_true_eq, Ev.s1 Kx, qGz]
 | f + 1, k, out, h, hb, hl, Kx => by
  rw [qGz]
  refine Ev.suc.trans ?_
  simp only [Z39.l4, Z39.l4.b, Ev.iteI, decide_eq_true_eq]
  by_cases hk : k > 0
  ·rw [if_pos hk, if_pos hk]
   have e : IntKind.wrap .i64 (Int.tdiv k 10) = k / 10 := by rw [qIS (by omega), qG (by omega) (by omega)]
   have hp : (10 : Int) ^ (f + 1) = 10 ^ f * 10 := Int.pow_succ 10 f
   simp (disch := (simp only [qX, List.map_cons, List.map_nil, List.length_cons, List.length_nil]; omega)) only [qIt hk hb, e, jT]
   rw [qHs f (k / 10) _ (by omega) (by omega) (by simp only [qX, List.map_cons, List.map_nil, List.length_append, List.length_cons, List.length_nil]; omega), Ev.s1 Kx]
  ·rw [if_neg hk, if_neg hk, Ev.s1 Kx]
def qMH (k : Int) : List UInt8 := [109] ++ qGz 19 k []
theorem qGm {k : Int} (h : 0 < k) (hb : k <= 4611686018427387904) (R : Nat -> List UInt8 -> Prop) :
  Ev (fun n => Z39.c n k (R n)) ↔ Ev (fun n => R n (qMH k)) := by
 refine Ev.suc.trans ?_
 have := qFJ 19 k []
 simp only [List.length_nil] at this
 simp only [Z39.c, Z39.w, Ev.iteI, decide_eq_true_eq]
 rw [if_neg (by omega), qHs 19 k [] (by omega) (by omega) (by simp)]
 simp (disch := (simp only [List.length_cons, List.length_nil]; omega)) only [jT, Ev.s1 R, qMH]
end Go.Vsi
end
