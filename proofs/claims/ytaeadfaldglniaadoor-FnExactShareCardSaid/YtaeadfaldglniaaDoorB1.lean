/- What the told functions answer. No statement is proved here. -/
import Derived.Test.YtaeadfaldglniaaDoorA1
set_option linter.unusedVariables false
set_option linter.unusedSimpArgs false
set_option synthInstance.maxSize 4096

section
namespace Go.Vsi
def Ev (P : Nat -> Prop) : Prop := ∃ N, ∀ n, N <= n -> P n
theorem Ev.succ {P : Nat -> Prop} : Ev (fun n => P (n + 1)) -> Ev P
 | ⟨N, h⟩ => ⟨N + 1, fun n hn => by obtain ⟨m, rfl⟩ : ∃ m, n = m + 1 := ⟨n - 1, by omega⟩; exact h m (by omega)⟩
theorem Ev.shift {P : Nat -> Prop} : Ev P -> Ev (fun n => P (n + 1))
 | ⟨N, h⟩ => ⟨N, fun n hn => h (n + 1) (by omega)⟩
theorem Ev.and {P Q : Nat -> Prop} : Ev P -> Ev Q -> Ev (fun n => P n /\ Q n)
 | ⟨N, h⟩, ⟨M, g⟩ => ⟨max N M, fun n hn => ⟨h n (by omega), g n (by omega)⟩⟩
theorem Ev.const {p : Prop} (h : p) : Ev (fun _ => p) := ⟨0, fun _ _ => h⟩
theorem Ev.pos {c : Prop} [Decidable c] {P Q : Nat -> Prop} (h : c) (h1 : Ev P) : Ev (fun n => if c then P n else Q n) := by
 simp only [if_pos h]; exact h1
theorem Ev.neg {c : Prop} [Decidable c] {P Q : Nat -> Prop} (h : ¬ c) (h1 : Ev Q) : Ev (fun n => if c then P n else Q n) := by
 simp only [if_neg h]; exact h1
theorem Ev.some {P : Nat -> Prop} : Ev P -> ∃ n, P n
 | ⟨N, h⟩ => ⟨N, h N (Nat.le_refl _)⟩
theorem qM {x : Int} (h1 : -9223372036854775808 <= x) (h2 : x < 9223372036854775808) : IntKind.wrap .i64 x = x := by
 simp only [IntKind.wrap, IntKind.bits, IntKind.signed, Bool.true_and]
 split <;> simp_all <;> omega
theorem qDt {x : Int} (h1 : 0 <= x) (h2 : x < 18446744073709551616) : IntKind.wrap .u64 x = x := by
 simp only [IntKind.wrap, IntKind.bits, IntKind.signed, Bool.false_and]
 simp; omega
theorem qMq {x : Int} (h1 : 0 <= x) (h2 : x < 256) : IntKind.wrap .u8 x = x := by
 simp only [IntKind.wrap, IntKind.bits, IntKind.signed, Bool.false_and]
 simp; omega
theorem qH2 {x m : Int} (h : 0 <= x) : Int.tdiv x m = x / m := Int.tdiv_eq_ediv_of_nonneg h
theorem qH1 {x m : Int} (h : 0 <= x) : Int.tmod x m = x % m := Int.tmod_eq_emod_of_nonneg h
theorem qMQ {x m : Int} (h : 0 <= m) : Int.fdiv x m = x / m := Int.fdiv_eq_ediv_of_nonneg x h
def W (ws : List Nat) : List Int := ws.map Int.ofNat
theorem qHM (ws : List Nat) : (W ws).length = ws.length := by simp [W]
theorem qPm (ws : List Nat) (i : Nat) : rd (W ws) i = ((ws.getD i 0 : Nat) : Int) := by
 simp only [rd, W, List.getD_eq_getElem?_getD, List.getElem?_map]
 cases ws[i]? <;> rfl
def Below (m : Nat) (ws : List Nat) : Prop := ∀ x ∈ ws, x < m
theorem qPB {m : Nat} : ∀ {l : List Int}, (∀ x ∈ l, 0 <= x /\ x < (m : Int)) -> ∃ ws, l = W ws /\ Below m ws
 | [], _ => ⟨[], rfl, by simp [Below]⟩
 | x :: l, h => by
  obtain ⟨ws, rfl, hb⟩ := qPB (l := l) fun y hy => h y (by simp [hy])
  have hx := h x (by simp)
  refine ⟨x.toNat :: ws, ?_, ?_⟩
  ·simp only [W, List.map_cons, List.cons.injEq, and_true]
   show x = (x.toNat : Int); omega
  ·intro y hy
   simp only [List.mem_cons] at hy
   rcases hy with rfl | hy
   ·omega
   ·exact hb y hy
theorem Below.getD {m : Nat} {ws : List Nat} (h : Below m ws) (hm : 0 < m) (i : Nat) : ws.getD i 0 < m := by
 rw [List.getD_eq_getElem?_getD]
 cases hw : ws[i]? with
 | none => exact hm
 | some y => exact h y (List.mem_of_getElem? hw)
theorem Below.set {m : Nat} {ws : List Nat} (h : Below m ws) {i x : Nat} (hx : x < m) : Below m (ws.set i x) := by
 intro y hy
 rcases List.mem_or_eq_of_mem_set hy with h' | rfl
 ·exact h y h'
 ·exact hx
theorem Below.app {m : Nat} {a b : List Nat} (ha : Below m a) (hb : Below m b) : Below m (a ++ b) := by
 intro y hy
 rcases List.mem_append.mp hy with h | h
 ·exact ha y h
 ·exact hb y h
theorem qM1 {a b : Nat} (ha : a < 18446744073709551616) (hb : b < 18446744073709551616) : qFP .and .u64 (a : Int) (b : Int) = ((a &&& b : Nat) : Int) := by
 have hab : a &&& b < 2 ^ 64 := Nat.and_lt_two_pow a hb
 show IntKind.wrap .u64 (((BitVec.ofInt 64 (a : Int) &&& BitVec.ofInt 64 (b : Int) : BitVec 64).toNat : Nat) : Int) = _
 rw [BitVec.toNat_and, BitVec.ofInt_natCast, BitVec.ofInt_natCast, BitVec.toNat_ofNat, BitVec.toNat_ofNat]
 rw [Nat.mod_eq_of_lt ha, Nat.mod_eq_of_lt hb]
 exact qDt (by omega) (by omega)
theorem qMw (a k : Nat) (hk : k <= 64) : Int.fdiv (a : Int) (2 ^ (Nat.min k 64)) = ((a >>> k : Nat) : Int) := by
 rw [qMQ (Int.le_of_lt (Int.pow_pos (by decide))), show Nat.min k 64 = k from Nat.min_eq_left hk, Nat.shiftRight_eq_div_pow]
 simp
def bit (ws : List Nat) (i : Nat) : Bool := (ws.getD (i / 64) 0).testBit (i % 64)
theorem qD2 {ws : List Nat} {i : Nat} (h : 64 * ws.length <= i) : bit ws i = false := by
 have : ws.length <= i / 64 := by omega
 simp [bit, List.getD_eq_getElem?_getD, List.getElem?_eq_none this]
theorem qHW {a b : List Nat} (hl : a.length = b.length) (ha : Below 18446744073709551616 a) (hb : Below 18446744073709551616 b)
  (h : ∀ i, i < 64 * a.length -> bit a i = bit b i) : a = b := by
 apply List.ext_getElem hl
 intro k h1 h2
 apply Nat.eq_of_testBit_eq
 intro j
 by_cases hj : j < 64
 ·have := h (64 * k + j) (by omega)
  have e1 : (64 * k + j) / 64 = k := by omega
  have e2 : (64 * k + j) % 64 = j := by omega
  simpa [bit, e1, e2, List.getD_eq_getElem?_getD, h1, h2] using this
 ·have p : ∀ x, x < 18446744073709551616 -> x.testBit j = false := fun x hx =>
   Nat.testBit_lt_two_pow (Nat.lt_of_lt_of_le hx (Nat.pow_le_pow_right (n := 2) (by decide) (Nat.not_lt.mp hj)))
  rw [p _ (ha _ (List.getElem_mem h1)), p _ (hb _ (List.getElem_mem h2))]
theorem Ev.suc {P : Nat -> Prop} : Ev P ↔ Ev (fun n => P (n + 1)) := ⟨Ev.shift, Ev.succ⟩
theorem Ev.s0 (R : Nat -> Prop) : Ev (fun n => R (n + 1)) ↔ Ev (fun n => R n) := ⟨Ev.succ, Ev.shift⟩
theorem Ev.s1 {α : Type} (R : Nat -> α -> Prop) (a : α) : Ev (fun n => R (n + 1) a) ↔ Ev (fun n => R n a) := Ev.s0 (fun n => R n a)
theorem Ev.s2 {α β : Type} (R : Nat -> α -> β -> Prop) (a : α) (b : β) : Ev (fun n => R (n + 1) a b) ↔ Ev (fun n => R n a b) := Ev.s0 (fun n => R n a b)
theorem Ev.s3 {α β γ : Type} (R : Nat -> α -> β -> γ -> Prop) (a : α) (b : β) (c : γ) : Ev (fun n => R (n + 1) a b c) ↔ Ev (fun n => R n a b c) := Ev.s0 (fun n => R n a b c)
theorem Ev.s4 {α β γ δ : Type} (R : Nat -> α -> β -> γ -> δ -> Prop) (a : α) (b : β) (c : γ) (d : δ) : Ev (fun n => R (n + 1) a b c d) ↔ Ev (fun n => R n a b c d) := Ev.s0 (fun n => R n a b c d)
theorem Ev.s5 {α β γ δ ε : Type} (R : Nat -> α -> β -> γ -> δ -> ε -> Prop) (a : α) (b : β) (c : γ) (d : δ) (e : ε) : Ev (fun n => R (n + 1) a b c d e) ↔ Ev (fun n => R n a b c d e) := Ev.s0 (fun n => R n a b c d e)
theorem Ev.s6 {α β γ δ ε ζ : Type} (R : Nat -> α -> β -> γ -> δ -> ε -> ζ -> Prop) (a : α) (b : β) (c : γ) (d : δ) (e : ε) (f : ζ) : Ev (fun n => R (n + 1) a b c d e f) ↔ Ev (fun n => R n a b c d e f) := Ev.s0 (fun n => R n a b c d e f)
theorem Ev.s7 {α β γ δ ε ζ η : Type} (R : Nat -> α -> β -> γ -> δ -> ε -> ζ -> η -> Prop) (a : α) (b : β) (c : γ) (d : δ) (e : ε) (f : ζ) (g : η) : Ev (fun n => R (n + 1) a b c d e f g) ↔ Ev (fun n => R n a b c d e f g) := Ev.s0 (fun n => R n a b c d e f g)
theorem Ev.s8 {α β γ δ ε ζ η θ : Type} (R : Nat -> α -> β -> γ -> δ -> ε -> ζ -> η -> θ -> Prop) (a : α) (b : β) (c : γ) (d : δ) (e : ε) (f : ζ) (g : η) (h : θ) : Ev (fun n => R (n + 1) a b c d e f g h) ↔ Ev (fun n => R n a b c d e f g h) := Ev.s0 (fun n => R n a b c d e f g h)
theorem Ev.s9 {α β γ δ ε ζ η θ ι : Type} (R : Nat -> α -> β -> γ -> δ -> ε -> ζ -> η -> θ -> ι -> Prop) (a : α) (b : β) (c : γ) (d : δ) (e : ε) (f : ζ) (g : η) (h : θ) (i : ι) : Ev (fun n => R (n + 1) a b c d e f g h i) ↔ Ev (fun n => R n a b c d e f g h i) := Ev.s0 (fun n => R n a b c d e f g h i)
theorem Ev.s10 {α β γ δ ε ζ η θ ι κ : Type} (R : Nat -> α -> β -> γ -> δ -> ε -> ζ -> η -> θ -> ι -> κ -> Prop) (a : α) (b : β) (c : γ) (d : δ) (e : ε) (f : ζ) (g : η) (h : θ) (i : ι) (j : κ) : Ev (fun n => R (n + 1) a b c d e f g h i j) ↔ Ev (fun n => R n a b c d e f g h i j) := Ev.s0 (fun n => R n a b c d e f g h i j)
@[simp] theorem Ev.k {p : Prop} : Ev (fun _ => p) ↔ p := ⟨fun ⟨_, h⟩ => h _ (Nat.le_refl _), Ev.const⟩
@[simp] theorem Ev.iteI {c : Prop} [Decidable c] {P Q : Nat -> Prop} : Ev (fun n => if c then P n else Q n) ↔ if c then Ev P else Ev Q := by
 by_cases h : c <;> simp only [h, if_true, if_false]
@[simp] theorem Ev.andI {P Q : Nat -> Prop} : Ev (fun n => P n /\ Q n) ↔ Ev P /\ Ev Q :=
 ⟨fun ⟨N, h⟩ => ⟨⟨N, fun n hn => (h n hn).1⟩, ⟨N, fun n hn => (h n hn).2⟩⟩, fun h => Ev.and h.1 h.2⟩
theorem zG {p : Prop} [Decidable p] {P : Prop} (h : p) : grd (decide p) P ↔ P := by rw [decide_eq_true h]; exact Iff.rfl
theorem qC {p q : Prop} [Decidable p] [Decidable q] {P : Prop} (h : p /\ q) : grd (decide p && decide q) P ↔ P := by rw [decide_eq_true h.1, decide_eq_true h.2]; exact Iff.rfl
theorem qGV {p q r : Prop} [Decidable p] [Decidable q] [Decidable r] {P : Prop} (h : p /\ q /\ r) : grd (decide p && decide q && decide r) P ↔ P := by rw [decide_eq_true h.1, decide_eq_true h.2.1, decide_eq_true h.2.2]; exact Iff.rfl
@[simp] theorem qOY {P : Prop} : grd true P ↔ P := Iff.rfl
theorem qO {α : Type} {l : List α} {x : Int} (h : l.drop x.toNat = []) (h0 : 0 <= x) : (l.length : Int) <= x := by
 have := List.drop_eq_nil_iff.1 h; omega
theorem qE {α : Type} [Inhabited α] {l ys : List α} {x : Int} {y : α} (h : l.drop x.toNat = y :: ys) (h0 : 0 <= x) :
  x < (l.length : Int) /\ rd l x.toNat = y /\ l.drop (x + 1).toNat = ys := by
 have hl : x.toNat < l.length := by
  rcases Nat.lt_or_ge x.toNat l.length with h' | h'
  ·exact h'
  ·rw [List.drop_eq_nil_of_le h'] at h; cases h
 refine ⟨by omega, ?_, ?_⟩
 ·have := List.getElem?_drop (xs := l) (i := x.toNat) (j := 0)
  rw [h] at this
  simp only [List.getElem?_cons_zero, Nat.add_zero] at this
  simp [rd, List.getD_eq_getElem?_getD, <- this]
 ·rw [show (x + 1).toNat = x.toNat + 1 from by omega, <- List.drop_drop, h]; rfl
theorem qBX {α : Type} {l ys : List α} {x : Int} {v : α} (h : l.drop (x + 1).toNat = ys) (h0 : 0 <= x) : (l.set x.toNat v).drop (x + 1).toNat = ys := by
 rw [List.drop_set_of_lt (by omega), h]
theorem wP {α : Type} {l : List α} {x : Int} {v : α} (h0 : 0 <= x) (hx : x < (l.length : Int)) : (l.set x.toNat v).take (x + 1).toNat = l.take x.toNat ++ [v] := by
 have e : (x + 1).toNat = x.toNat + 1 := by omega
 have hl : x.toNat < l.length := by omega
 rw [e, List.take_succ_eq_append_getElem (by simpa using hl), List.take_set_of_le (by omega)]
 simp
theorem qBu {α : Type} [Inhabited α] {l : List α} {i : Nat} {v : α} (h : i < l.length) : rd (l.set i v) i = v := by
 simp [rd, List.getD_eq_getElem?_getD, h]
theorem jV {α : Type} {R : Nat -> α -> Prop} {a b : α} (h : a = b) : Ev (fun n => R n a) ↔ Ev (fun n => R n b) := by rw [h]
theorem qI4 {R : Nat -> Bool -> Prop} {b : Bool} : (if b = true then Ev (fun n => R n true) else Ev (fun n => R n false)) ↔ Ev (fun n => R n b) := by cases b <;> simp
theorem qDQ {α β : Type} {R : Nat -> α -> β -> Prop} {a b : α} {c : β} (h : a = b) : Ev (fun n => R n a c) ↔ Ev (fun n => R n b c) := by rw [h]
theorem qDP {α β : Type} {R : Nat -> α -> β -> Prop} {a b : α} {c d : β} (h : a = b) (h' : c = d) : Ev (fun n => R n a c) ↔ Ev (fun n => R n b d) := by rw [h, h']
def Gd : (t : Ty) -> t.T -> Prop
 | .int k, n => k.min <= n /\ n <= k.max
 | .str, s => s.length <= 9223372036854775807
 | .sl _ t, l => l.length <= 9223372036854775807 /\ ∀ y, y ∈ l -> Gd t y
 | .prod a b, p => Gd a p.1 /\ Gd b p.2
 | .bool, _ => True
 | .unit, _ => True
 | .ptr _ _, _ => True
def qS {α : Type} (p : α -> Bool) : List α -> Int -> Int
 | [], _ => -1
 | y :: r, x => if p y = true then x else qS p r (x + 1)
theorem qAn {α : Type} {p : α -> Bool} : ∀ {l : List α} {x : Int}, 0 <= x -> qS p l x < 0 -> qS p l x = -1
 | [], x, _, _ => rfl
 | y :: l, x, h0, h => by
  rw [qS] at h ⊢
  split
  ·rename_i hp; rw [if_pos hp] at h; omega
  ·rename_i hp; rw [if_neg hp] at h; exact qAn (by omega) h
theorem qAo {α : Type} {p : α -> Bool} : ∀ {l : List α} {x : Int}, 0 <= x -> decide (qS p l x >= 0) = l.any p
 | [], x, _ => by simp [qS]
 | y :: l, x, h0 => by
  rw [qS, List.any_cons]
  by_cases hp : p y = true
  ·simp [hp, h0]
  ·rw [if_neg hp, qAo (by omega)]
   simp only [Bool.not_eq_true] at hp
   simp [hp]
def szr (left : Int) (z : Nat) : Int := if left < z then -1 else left - z
theorem qH5 {left : Int} {z : Nat} : szr left z < 0 ↔ left < z := by unfold szr; split <;> omega
theorem qKz {left : Int} {z : Nat} (h : (z : Int) <= left) : szr left z = left - z := by unfold szr; rw [if_neg (by omega)]
theorem qKA {left : Int} {z : Nat} (h : ¬ (z : Int) <= left) : szr left z = -1 := by unfold szr; rw [if_pos (by omega)]
theorem qH4 {left : Int} {y z : Nat} (h : 0 <= left) (hy : ¬ szr left y < 0) : szr (szr left y) z = szr left (y + z) := by
 rw [qH5] at hy
 unfold szr; split <;> split <;> split <;> omega
theorem qGp {left : Int} {y z : Nat} (h : szr left y < 0) : szr left (y + z) = -1 := by
 rw [qH5] at h; unfold szr; split <;> omega
theorem qGo {left : Int} {z : Nat} (h : -1 <= left) : -1 <= szr left z := by unfold szr; split <;> omega
theorem qA6 {left b : Int} {z : Nat} (h : -1 <= left) (h' : left <= b) : szr left z <= b := by unfold szr; split <;> omega
structure Ok (w : Int) (ws : List Nat) : Prop where
 lo : 1 <= w
 hi : w <= 4096
 len : (ws.length : Int) = (w + 63) / 64
 words : Below 18446744073709551616 ws
 top : ∀ i : Nat, w <= i -> bit ws i = false
def qLp (f : Nat -> Bool) : Nat -> Nat
 | 0 => 0
 | n + 1 => qLp f n ||| ((f n).toNat <<< n)
theorem qDx (b : Bool) (k : Nat) : b.toNat.testBit k = (decide (k = 0) && b) := by
 cases b
 ·simp
 ·cases k <;> simp [Nat.testBit_succ]
theorem qDu (f : Nat -> Bool) : ∀ (n j : Nat), (qLp f n).testBit j = (decide (j < n) && f j)
 | 0, j => by simp [qLp]
 | n + 1, j => by
  rw [qLp, Nat.testBit_or, qDu f n, Nat.testBit_shiftLeft, qDx]
  by_cases h : j < n
  ·have h1 : j < n + 1 := by omega
   have h2 : ¬ n <= j := by omega
   simp [h, h1, h2]
  ·by_cases h3 : j = n
   ·subst h3; simp
   ·have h1 : ¬ j < n + 1 := by omega
    have h2 : ¬ j - n = 0 := by omega
    simp [h, h1, h2]
theorem qLo (f : Nat -> Bool) (n : Nat) : qLp f n < 2 ^ n := by
 apply Nat.lt_pow_two_of_testBit
 intro j hj
 rw [qDu]
 have : ¬ j < n := by omega
 simp [this]
def pk (w : Nat) (f : Nat -> Bool) : List Nat := (List.range ((w + 63) / 64)).map fun k => qLp (fun j => decide (64 * k + j < w) && f (64 * k + j)) 64
theorem qKG (w : Nat) (f : Nat -> Bool) : (pk w f).length = (w + 63) / 64 := by simp [pk]
theorem qLB (w : Nat) (f : Nat -> Bool) {k : Nat} (h : k < (w + 63) / 64) : (pk w f).getD k 0 = qLp (fun j => decide (64 * k + j < w) && f (64 * k + j)) 64 := by
 rw [List.getD_eq_getElem?_getD, pk, List.getElem?_map, List.getElem?_range h]; rfl
theorem qMz (w : Nat) (f : Nat -> Bool) (i : Nat) : bit (pk w f) i = (decide (i < w) && f i) := by
 by_cases h : i / 64 < (w + 63) / 64
 ·rw [bit, qLB w f h, qDu, show 64 * (i / 64) + i % 64 = i from by omega]
  have : i % 64 < 64 := by omega
  simp [this]
 ·rw [qD2 (by rw [qKG]; omega)]
  have : ¬ i < w := by omega
  simp [this]
theorem qJZ (w : Nat) (f : Nat -> Bool) : Below 18446744073709551616 (pk w f) := by
 intro x hx
 rw [pk, List.mem_map] at hx
 obtain ⟨k, _, rfl⟩ := hx
 exact qLo _ 64
theorem qO7 {w : Nat} {ws : List Nat} {f : Nat -> Bool} (h : Ok w ws) (hf : ∀ i, i < w -> bit ws i = f i) : ws = pk w f := by
 refine qHW (by rw [qKG]; have := h.len; omega) h.words (qJZ w f) fun i _ => ?_
 rw [qMz]
 by_cases hi : i < w
 ·rw [hf i hi]; simp [hi]
 ·rw [h.top i (by omega)]; simp [hi]
theorem Ev.impI {p : Prop} {P : Nat -> Prop} : Ev (fun n => p -> P n) ↔ (p -> Ev P) := by
 by_cases h : p
 ·simp only [h, true_imp_iff]
 ·simp only [h, false_imp_iff, iff_true]; exact ⟨0, fun _ _ => trivial⟩
def Wd (l : List Int) : Prop := ∀ x ∈ l, 0 <= x /\ x <= 18446744073709551615
def zF (w : Int) (l : List Int) : Bool := decide (1 <= w /\ w <= 4096 /\ (l.length : Int) = (w + 63) / 64 /\ (w % 64 = 0 \/ rd l (l.length - 1) / 2 ^ (w % 64).toNat = 0))
theorem qL2 {x j : Nat} : x / 2 ^ j % 2 = (x.testBit j).toNat := by
 rw [Nat.testBit, Nat.shiftRight_eq_div_pow, Nat.one_and_eq_mod_two]
 rcases Nat.mod_two_eq_zero_or_one (x / 2 ^ j) with h | h <;> simp [h]
theorem qAl {a b c : Int} (R : Nat -> Bool -> Prop) : Ev (fun n => Z67.c n a b c (R n)) ↔ Ev (fun n => R n (decide (b <= a /\ a <= c))) := by
 refine Ev.suc.trans ?_
 simp only [Z67.c, Z67.w, Ev.iteI, decide_eq_true_eq, Ev.s1 R, ge_iff_le]
 split
 ·refine jV ?_; rw [decide_eq_decide]; omega
 ·refine jV ?_; symm; rw [decide_eq_false_iff_not]; omega
theorem kD {a b c : Int} (R : Nat -> Bool -> Prop) : Ev (fun n => Z15.c n a b c (R n)) ↔ Ev (fun n => R n (decide (b <= a /\ a <= c))) := by
 refine Ev.suc.trans ?_
 simp only [Z15.c, Z15.w, Ev.iteI, decide_eq_true_eq, Ev.s1 R, ge_iff_le]
 split
 ·refine jV ?_; rw [decide_eq_decide]; omega
 ·refine jV ?_; symm; rw [decide_eq_false_iff_not]; omega
theorem qFv {a : Int} (h0 : 0 <= a) (h1 : a <= 1000000000) (R : Nat -> Int -> Prop) : Ev (fun n => Z21.c n a (R n)) ↔ Ev (fun n => R n ((a + 63) / 64)) := by
 refine Ev.suc.trans ?_
 simp (disch := omega) only [Z21.c, Z21.w, qM, qH2, Ev.s1 R]
theorem qJ9 {ws : List Nat} (hw : Below 18446744073709551616 ws) {k : Nat} (hk : k < 64 * ws.length) (hl : ws.length <= 4096) {w : Int} (R : Nat -> Int -> Prop) :
  Ev (fun n => Z65.c n w (W ws) k (R n)) ↔ Ev (fun n => R n ((bit ws k).toNat : Int)) := by
 refine Ev.suc.trans ?_
 have e : qFP .and .u64 ((ws.getD (k / 64) 0 >>> (k % 64) : Nat) : Int) 1 = (((bit ws k).toNat : Nat) : Int) := by
  have hx : ws.getD (k / 64) 0 >>> (k % 64) < 18446744073709551616 := by
   rw [Nat.shiftRight_eq_div_pow]; exact Nat.lt_of_le_of_lt (Nat.div_le_self _ _) (hw.getD (by decide) _)
  rw [show (1 : Int) = ((1 : Nat) : Int) from rfl, qM1 hx (by decide), Nat.and_one_is_mod, Nat.shiftRight_eq_div_pow, qL2]; rfl
 have e1 : Int.toNat ((k : Int) / 64) = k / 64 := by omega
 have e2 : Int.toNat ((k : Int) % 64) = k % 64 := by omega
 simp (disch := omega) only [Z65.c, Z65.w, qHM, qH2, qH1, qM, qDt, qC, zG, e1, e2, qPm, qMw, e]
 rw [qMq (by omega) (by cases bit ws k <;> simp), Ev.s1 R]
theorem qEs {ws : List Nat} (hw : Below 18446744073709551616 ws) (hl : ws.length <= 4096) {w : Int} : ∀ (m k : Nat), k + m = 64 * ws.length -> ∃ b : Bool, (b = true ↔ ∀ i, k <= i -> bit ws i = false) /\
  ∀ (Kx : Nat -> Prop) (Kr : Nat -> Bool -> Prop), (Ev (fun n => Z61.l4 n w (W ws) k (Kx n) (Kr n)) ↔ if b = true then Ev Kx else Ev (fun n => Kr n false))
 | 0, k, h => by
  refine ⟨true, ⟨fun _ i hi => qD2 (by omega), fun _ => rfl⟩, fun Kx Kr => ?_⟩
  refine Ev.suc.trans ?_
  simp (disch := omega) only [Z61.l4, Z61.l4.b, qHM, qM, if_neg, decide_eq_true_eq, Ev.s0 Kx, if_true]
 | m + 1, k, h => by
  obtain ⟨b, hb, kk⟩ := qEs hw hl (w := w) m (k + 1) (by omega)
  refine ⟨b && !bit ws k, ?_, fun Kx Kr => ?_⟩
  ·simp only [Bool.and_eq_true, Bool.not_eq_true', hb]
   constructor
   ·rintro ⟨h1, h2⟩ i hi
    rcases Nat.lt_or_eq_of_le hi with h' | rfl
    ·exact h1 i h'
    ·exact h2
   ·exact fun h => ⟨fun i hi => h i (by omega), h k (Nat.le_refl _)⟩
  ·refine Ev.suc.trans ?_
   have e : ((k : Int) + 1) = ((k + 1 : Nat) : Int) := by omega
   simp (disch := omega) only [Z61.l4, Z61.l4.b, qHM, qM, if_pos, decide_eq_true_eq, qJ9 hw _ hl, Ev.iteI, Bool.not_eq_true', decide_eq_false_iff_not, e, kk, Ev.s0 Kx, Ev.s1 Kr]
   cases bit ws k <;> simp
theorem qGm {w : Int} {ws : List Nat} (hw : Below 18446744073709551616 ws) (h1 : 1 <= w) (h2 : (ws.length : Int) = (w + 63) / 64) (hr : w % 64 ≠ 0) :
  ws.getD (ws.length - 1) 0 >>> (w % 64).toNat = 0 ↔ ∀ i : Nat, w <= i -> bit ws i = false := by
 constructor
 ·intro h i hi
  by_cases ho : 64 * ws.length <= i
  ·exact qD2 ho
  ·have e1 : i / 64 = ws.length - 1 := by omega
   have := congrArg (fun y => Nat.testBit y (i % 64 - (w % 64).toNat)) h
   simp only [Nat.testBit_shiftRight, Nat.zero_testBit] at this
   rw [show (w % 64).toNat + (i % 64 - (w % 64).toNat) = i % 64 from by omega] at this
   rw [bit, e1]; exact this
 ·intro h
  apply Nat.eq_of_testBit_eq
  intro j
  rw [Nat.testBit_shiftRight, Nat.zero_testBit]
  by_cases hj : (w % 64).toNat + j < 64
  ·have := h (64 * (ws.length - 1) + ((w % 64).toNat + j)) (by omega)
   rw [bit, show (64 * (ws.length - 1) + ((w % 64).toNat + j)) / 64 = ws.length - 1 from by omega, show (64 * (ws.length - 1) + ((w % 64).toNat + j)) % 64 = (w % 64).toNat + j from by omega] at this
   exact this
  ·exact Nat.testBit_lt_two_pow (Nat.lt_of_lt_of_le (hw.getD (by decide) _) (Nat.pow_le_pow_right (n := 2) (by decide) (Nat.not_lt.mp hj)))
theorem qG3 {w : Int} {ws : List Nat} (hw : Below 18446744073709551616 ws) : zF w (W ws) = true ↔ 1 <= w /\ w <= 4096 /\ (ws.length : Int) = (w + 63) / 64 /\ ∀ i : Nat, w <= i -> bit ws i = false := by
 rw [zF, decide_eq_true_eq, qHM, qPm]
 refine ⟨fun ⟨h1, h2, h3, h4⟩ => ⟨h1, h2, h3, ?_⟩, fun ⟨h1, h2, h3, h4⟩ => ⟨h1, h2, h3, ?_⟩⟩
 ·by_cases h5 : w % 64 = 0
  ·exact fun i hi => qD2 (by omega)
  ·rcases h4 with h4 | h4
   ·exact absurd h4 h5
   ·rw [<- qGm hw h1 h3 h5, Nat.shiftRight_eq_div_pow]
    exact_mod_cast h4
 ·by_cases h5 : w % 64 = 0
  ·exact Or.inl h5
  ·have := (qGm hw h1 h3 h5).2 h4
   rw [Nat.shiftRight_eq_div_pow] at this
   exact Or.inr (by exact_mod_cast this)
theorem Wd.of {l : List Int} (h : Wd l) : ∃ ws, l = W ws /\ Below 18446744073709551616 ws := qPB fun x hx => ⟨(h x hx).1, by have := (h x hx).2; omega⟩
theorem qH9 {w : Int} {l : List Int} (hw : Wd l) (R : Nat -> Bool -> Prop) : Ev (fun n => Z61.c n w l (R n)) ↔ Ev (fun n => R n (zF w l)) := by
 obtain ⟨ws, rfl, hB⟩ := hw.of
 have hiff := qG3 (w := w) hB
 refine Ev.suc.trans ?_
 simp (disch := omega) only [Z61.c, Z61.w, qAl, Ev.iteI, Bool.not_eq_false', Bool.not_eq_true', decide_eq_true_eq, decide_eq_false_iff_not, qHM]
 by_cases h1 : 1 <= w /\ w <= 4096
 ·rw [if_pos h1, qM (x := w + 63) (by omega) (by omega), qH2 (by omega), qM (by omega) (by omega)]
  by_cases h2 : (ws.length : Int) = (w + 63) / 64
  ·obtain ⟨b, hb, kk⟩ := qEs hB (by omega) (w := w) (64 * ws.length - w.toNat) w.toNat (by omega)
   have e : ((w.toNat : Nat) : Int) = w := by omega
   rw [e] at kk
   rw [if_neg (by omega), kk, Ev.s1 R, Ev.s1 R]
   have : b = zF w (W ws) := by
    rw [Bool.eq_iff_iff, hb, hiff]
    exact ⟨fun h => ⟨h1.1, h1.2, h2, fun i hi => h i (by omega)⟩, fun h i hi => h.2.2.2 i (by omega)⟩
   rw [<- this]
   cases b <;> rfl
  ·rw [if_pos h2, Ev.s1 R]
   have : zF w (W ws) = false := by
    rw [Bool.eq_false_iff]; intro h; exact h2 (hiff.1 h).2.2.1
   rw [this]
 ·rw [if_neg h1, Ev.s1 R]
  have : zF w (W ws) = false := by
   rw [Bool.eq_false_iff]; intro h; exact h1 ⟨(hiff.1 h).1, (hiff.1 h).2.1⟩
  rw [this]
theorem qEV {w : Int} {l : List Int} (R : Nat -> Bool -> Prop) : Ev (fun n => Z0.c n w l (R n)) ↔ Ev (fun n => R n (zF w l)) := by
 refine Ev.suc.trans ?_
 simp only [Z0.c, Z0.w, kD, Ev.iteI, Ev.andI, Bool.not_eq_false', Bool.not_eq_true', decide_eq_true_eq, decide_eq_false_iff_not, Ev.s1 R, and_self]
 by_cases h1 : 1 <= w /\ w <= 4096
 ·rw [if_pos h1]
  simp (disch := omega) only [qFv, Ev.iteI, Bool.not_eq_true', decide_eq_false_iff_not, Ev.s1 R]
  by_cases h2 : (l.length : Int) = (w + 63) / 64
  ·rw [if_neg (by omega)]
   simp (disch := omega) only [Z0.j0, qH1, Ev.iteI, decide_eq_false_iff_not, qM, qC, zG, Ev.s1 R]
   by_cases h3 : w % 64 = 0
   ·rw [if_neg (by omega), show zF w l = true from by simp [zF, h1, h2, h3]]
   ·rw [if_pos h3]
    refine jV ?_
    have e1 : ((l.length : Int) - 1).toNat = l.length - 1 := by omega
    have e2 : Nat.min (w % 64).toNat 64 = (w % 64).toNat := Nat.min_eq_left (by omega)
    rw [e1, e2, qMQ (Int.le_of_lt (Int.pow_pos (by decide)))]
    simp [zF, h1, h2, h3]
  ·rw [if_pos h2, show zF w l = false from by simp [zF, h2]]
 ·rw [if_neg h1, show zF w l = false from by
   rw [Bool.eq_false_iff]; intro h; rw [zF, decide_eq_true_eq] at h; exact h1 ⟨h.1, h.2.1⟩]
theorem qEY {l ys : List UInt8} {x : Int} {y : UInt8} (h : l.drop x.toNat = y :: ys) (h0 : 0 <= x) : x < (l.length : Int) /\ List.getD l x.toNat 0 = y /\ l.drop (x + 1).toNat = ys :=
 qE h h0
def qKW (c : UInt8) : Bool := decide ((97 <= (c.toNat : Int) /\ (c.toNat : Int) <= 122) \/ (48 <= (c.toNat : Int) /\ (c.toNat : Int) <= 57))
def qCm (s : List UInt8) : Bool := decide (1 <= s.length /\ s.length <= 12 /\ 97 <= ((List.getD s 0 0).toNat : Int) /\ ((List.getD s 0 0).toNat : Int) <= 122) && s.all qKW
theorem qEI {s : List UInt8} (hl : s.length <= 1099511627776) : ∀ (ys : List UInt8) (x : Int), s.drop x.toNat = ys -> 0 <= x -> ∀ (Kx : Nat -> Prop) (Kr : Nat -> Bool -> Prop),
  (Ev (fun n => Z16.l4 n s x (Kx n) (Kr n)) ↔ if ys.all qKW = true then Ev Kx else Ev (fun n => Kr n false))
 | [], x, h, h0, Kx, Kr => by
  have := qO h h0
  refine Ev.suc.trans ?_
  simp (disch := omega) only [Z16.l4, Z16.l4.b, if_neg, decide_eq_true_eq, Ev.s0 Kx, List.all_nil, if_true]
 | y :: ys, x, h, h0, Kx, Kr => by
  obtain ⟨e1, e2, e3⟩ := qEY h h0
  refine Ev.suc.trans ?_
  simp (disch := omega) only [Z16.l4, Z16.l4.b, if_pos, decide_eq_true_eq, decide_eq_false_iff_not, qC, e2, qM, Ev.iteI, qEI hl ys (x + 1) e3, Ev.s0 Kx, Ev.s1 Kr, List.all_cons, Bool.and_eq_true]
  simp only [qKW, decide_eq_true_eq]
  (repeat' split) <;> first | rfl | (exfalso; omega) | (exfalso; simp_all; omega) | (simp_all; done)
theorem qIA {s : List UInt8} (R : Nat -> Bool -> Prop) : Ev (fun n => Z16.c n s (R n)) ↔ Ev (fun n => R n (qCm s)) := by
 refine Ev.suc.trans ?_
 simp only [Z16.c, Z16.w, Ev.iteI, decide_eq_true_eq, decide_eq_false_iff_not, qCm]
 by_cases h1 : 1 <= s.length /\ s.length <= 12
 ·rw [if_pos (by omega), if_pos (by omega)]
  simp (disch := omega) only [zG, Ev.iteI, qEI (by omega) s 0 rfl, Ev.s1 R, decide_eq_false_iff_not, decide_eq_true_eq]
  by_cases h2 : 97 <= ((List.getD s 0 0).toNat : Int) /\ ((List.getD s 0 0).toNat : Int) <= 122
  ·rw [if_pos (by omega), if_neg (by omega)]
   rw [show (decide (1 <= s.length /\ s.length <= 12 /\ 97 <= ((List.getD s 0 0).toNat : Int) /\ ((List.getD s 0 0).toNat : Int) <= 122)) = true from by rw [decide_eq_true_eq]; omega, Bool.true_and]
   exact qI4
  ·rw [show (decide (1 <= s.length /\ s.length <= 12 /\ 97 <= ((List.getD s 0 0).toNat : Int) /\ ((List.getD s 0 0).toNat : Int) <= 122)) = false from by rw [decide_eq_false_iff_not]; omega, Bool.false_and]
   split <;> (try split) <;> first | rfl | (exfalso; omega)
 ·rw [show (decide (1 <= s.length /\ s.length <= 12 /\ 97 <= ((List.getD s 0 0).toNat : Int) /\ ((List.getD s 0 0).toNat : Int) <= 122)) = false from by rw [decide_eq_false_iff_not]; omega, Bool.false_and, Ev.s1 R]
  split <;> (try split) <;> first | rfl | (exfalso; omega)
theorem qDc {a : Int} (R : Nat -> Bool -> Prop) : Ev (fun n => Z66.c n a (R n)) ↔ Ev (fun n => R n (decide (48 <= a /\ a <= 57))) := by
 refine Ev.suc.trans ?_
 simp only [Z66.c, Z66.w, Ev.iteI, decide_eq_true_eq, Ev.s1 R, ge_iff_le]
 split
 ·refine jV ?_; rw [decide_eq_decide]; omega
 ·refine jV ?_; symm; rw [decide_eq_false_iff_not]; omega
theorem qEQ {s : List UInt8} (hl : s.length <= 1099511627776) : ∀ (ys : List UInt8) (x : Int), s.drop x.toNat = ys -> 0 <= x -> ∀ (Kx : Nat -> Prop) (Kr : Nat -> Bool -> Prop),
  (Ev (fun n => Z68.l4 n s x (Kx n) (Kr n)) ↔ if ys.all qKW = true then Ev Kx else Ev (fun n => Kr n false))
 | [], x, h, h0, Kx, Kr => by
  have := qO h h0
  refine Ev.suc.trans ?_
  simp (disch := omega) only [Z68.l4, Z68.l4.b, if_neg, decide_eq_true_eq, Ev.s0 Kx, List.all_nil, if_true]
 | y :: ys, x, h, h0, Kx, Kr => by
  obtain ⟨e1, e2, e3⟩ := qEY h h0
  refine Ev.suc.trans ?_
  simp (disch := omega) only [Z68.l4, Z68.l4.b, if_pos, decide_eq_true_eq, decide_eq_false_iff_not, Bool.not_eq_true', qC, e2, qM, qDc, Ev.iteI, qEQ hl ys (x + 1) e3, Ev.s0 Kx, Ev.s1 Kr, List.all_cons, Bool.and_eq_true]
  simp only [qKW, decide_eq_true_eq]
  (repeat' split) <;> first | rfl | (exfalso; omega) | (exfalso; simp_all; omega) | (simp_all; done)
theorem qIK {s : List UInt8} (R : Nat -> Bool -> Prop) : Ev (fun n => Z68.c n s (R n)) ↔ Ev (fun n => R n (qCm s)) := by
 refine Ev.suc.trans ?_
 simp only [Z68.c, Z68.w, Ev.iteI, decide_eq_true_eq, decide_eq_false_iff_not, qCm]
 by_cases h1 : 1 <= s.length /\ s.length <= 12
 ·rw [if_pos (by omega), if_pos (by omega)]
  simp (disch := omega) only [zG, qDc, Ev.iteI, qEQ (by omega) s 0 rfl, Ev.s1 R, decide_eq_false_iff_not, decide_eq_true_eq]
  match s, h1 with
  | c :: r, h1 =>
   have e : (List.getD (c :: r) 0 0) = c := rfl
   rw [e]
   by_cases h2 : 48 <= (c.toNat : Int) /\ (c.toNat : Int) <= 57
   ·rw [if_pos h2, show (decide (1 <= (c :: r).length /\ (c :: r).length <= 12 /\ 97 <= (c.toNat : Int) /\ (c.toNat : Int) <= 122)) = false from by rw [decide_eq_false_iff_not]; omega, Bool.false_and]
   ·rw [if_neg h2]
    by_cases h3 : qKW c = true
    ·have : 97 <= (c.toNat : Int) /\ (c.toNat : Int) <= 122 := by
      rw [qKW, decide_eq_true_eq] at h3; omega
     rw [show (decide (1 <= (c :: r).length /\ (c :: r).length <= 12 /\ 97 <= (c.toNat : Int) /\ (c.toNat : Int) <= 122)) = true from by rw [decide_eq_true_eq]; omega, Bool.true_and]
     exact qI4
    ·rw [List.all_cons, if_neg (by simp [h3]), show qKW c = false from by simpa using h3, Bool.false_and, Bool.and_false]
  | [], h1 => simp at h1
 ·rw [show (decide (1 <= s.length /\ s.length <= 12 /\ 97 <= ((List.getD s 0 0).toNat : Int) /\ ((List.getD s 0 0).toNat : Int) <= 122)) = false from by rw [decide_eq_false_iff_not]; omega, Bool.false_and, Ev.s1 R]
  split <;> (try split) <;> first | rfl | (exfalso; omega)
theorem qE8 {a : List UInt8} {b : Int} {z : List UInt8} (R : Nat -> Bool -> Prop) : Ev (fun n => Z14.c n a b z (R n)) ↔ Ev (fun n => R n (decide (a = z))) := by
 refine Ev.suc.trans ?_
 simp only [Z14.c, Z14.w, Ev.s1 R]
 refine jV ?_
 rw [Bool.eq_iff_iff]; simp
theorem qKY {l : List qP} {z : List UInt8} (hl : l.length <= 1099511627776) : ∀ (ys : List qP) (x : Int), l.drop x.toNat = ys -> 0 <= x ->
  ∀ (Kx : Nat -> Prop) (Kr : Nat -> Int -> Prop),
  (Ev (fun n => Z59.l2 n l z l.length x (Kx n) (Kr n)) ↔ if qS (fun y => decide (y.1 = z)) ys x < 0 then Ev Kx else Ev (fun n => Kr n (qS (fun y => decide (y.1 = z)) ys x)))
 | [], x, h, h0, Kx, Kr => by
  have := qO h h0
  rw [qS, if_pos (by decide)]
  refine Ev.suc.trans ?_
  simp (disch := omega) only [Z59.l2, Z59.l2.b, if_neg, decide_eq_true_eq, Ev.s0 Kx]
 | y :: ys, x, h, h0, Kx, Kr => by
  obtain ⟨e1, e2, e3⟩ := qE h h0
  refine Ev.suc.trans ?_
  simp (disch := first | omega | omega) only [Z59.l2, Z59.l2.b, if_pos, decide_eq_true_eq, qC, e2, qM, Ev.s1 Kr, qE8, Ev.iteI]
  rw [qKY hl ys (x + 1) e3 (by omega), Ev.s0 Kx, Ev.s1 Kr]
  simp only [qS, decide_eq_true_eq]
  split
  ·rw [if_neg (by omega)]
  ·rfl
theorem qNo {l : List qP} {z : List UInt8} (hl : l.length <= 1099511627776) (R : Nat -> Int -> Prop) :
  Ev (fun n => Z59.c n l z (R n)) ↔ Ev (fun n => R n (qS (fun y => decide (y.1 = z)) l 0)) := by
 refine Ev.suc.trans ?_
 simp only [Z59.c, Z59.w]
 rw [qKY hl l 0 rfl (by omega), Ev.s1 R, Ev.s1 R]
 split
 ·rw [qAn (by omega) ‹_›]
 ·rfl
theorem qFW {l : List qP} {z : List UInt8} (hl : l.length <= 1099511627776) (R : Nat -> Int -> Prop) : Ev (fun n => Z13.c n l z (R n)) ↔ Ev (fun n => R n (qS (fun y => decide (y.1 = z)) l 0)) := by
 refine Ev.suc.trans ?_
 simp only [Z13.c, Z13.w]
 rw [qNo hl, Ev.s1 R]
def xH : List qP -> List qP -> Int -> Bool
 | _, [], t => decide (t <= 20000)
 | pre, y :: r, t => qCm y.1 && decide (1 <= y.2 /\ y.2 <= 4096) && !(pre.any fun z => decide (z.1 = y.1)) && xH (pre ++ [y]) r (t + y.2)
def wJ (l : List qP) : Bool := decide (l.length <= 60) && xH [] l 0
theorem qEk {α : Type} {l ys : List α} {x : Int} {y : α} (h : l.drop x.toNat = y :: ys) (h0 : 0 <= x) : l.take (x + 1).toNat = l.take x.toNat ++ [y] := by
 have hl : x.toNat < l.length := by
  rcases Nat.lt_or_ge x.toNat l.length with h' | h'
  ·exact h'
  ·rw [List.drop_eq_nil_of_le h'] at h; cases h
 rw [show (x + 1).toNat = x.toNat + 1 from by omega, List.take_succ_eq_append_getElem hl]
 congr 2
 have := List.getElem?_drop (xs := l) (i := x.toNat) (j := 0)
 rw [h] at this
 simp only [List.getElem?_cons_zero, Nat.add_zero, List.getElem?_eq_getElem hl, Option.some.injEq] at this
 exact this.symm
theorem qDl {l : List qP} (hl : l.length <= 60) : ∀ (ys : List qP) (x t : Int), l.drop x.toNat = ys -> 0 <= x -> 0 <= t -> t <= 4096 * x -> ∀ (R : Nat -> Bool -> Prop),
  (Ev (fun n => Z1.l5 n l l l.length t x (fun y => R n (decide (y <= 20000))) (R n)) ↔ Ev (fun n => R n (xH (l.take x.toNat) ys t)))
 | [], x, t, h, h0, ht, ht', R => by
  have := qO h h0
  refine Ev.suc.trans ?_
  simp (disch := omega) only [Z1.l5, Z1.l5.b, if_neg, decide_eq_true_eq, Ev.s1 R, xH]
 | y :: ys, x, t, h, h0, ht, ht', R => by
  obtain ⟨e1, e2, e3⟩ := qE h h0
  refine Ev.suc.trans ?_
  have hd : (List.drop 0 (List.take x.toNat l)).length <= 1099511627776 := by simp; omega
  simp (disch := omega) only [Z1.l5, Z1.l5.b, if_pos, decide_eq_true_eq, qC, e2, qIA, kD, Ev.iteI, Bool.not_eq_false', Ev.s1 R, xH]
  by_cases h1 : qCm y.1 = true
  ·by_cases h2 : 1 <= y.2 /\ y.2 <= 4096
   ·rw [if_pos h1, if_pos h2]
    simp (disch := omega) only [qGV, qFW hd, Ev.iteI, qM, ge_iff_le]
    rw [qDl hl ys (x + 1) (t + y.2) e3 (by omega) (by omega) (by omega), Ev.s1 R, Ev.s1 R, qEk h h0]
    have e := qAo (p := fun z : qP => decide (z.1 = y.1)) (l := List.take x.toNat l) (x := 0) (by omega)
    rw [List.drop_zero]
    by_cases h3 : 0 <= qS (fun z : qP => decide (z.1 = y.1)) (List.take x.toNat l) 0
    ·rw [if_pos h3, <- e]; simp [h1, h2, h3]
    ·rw [if_neg h3, <- e]; simp [h1, h2, h3]
   ·rw [if_pos h1, if_neg h2]; simp [h1, h2]
  ·rw [if_neg h1]; simp [h1]
theorem qHF {l : List qP} (R : Nat -> Bool -> Prop) : Ev (fun n => Z1.c n l (R n)) ↔ Ev (fun n => R n (wJ l)) := by
 refine Ev.suc.trans ?_
 simp only [Z1.c, Z1.w, Ev.iteI, decide_eq_true_eq, wJ]
 by_cases h : l.length <= 60
 ·rw [if_neg (by omega), qDl h l 0 0 rfl (by omega) (by omega) (by omega) (fun n => R (n + 1)), Ev.s1 R]
  simp [h]
 ·rw [if_pos (by omega), Ev.s1 R]; simp [h]
theorem qCz {l : List qP} {t i : Int} {y : qP} (hl : l.length <= 60) (hi : rd l i.toNat = y) (hi0 : 0 <= i) (hi1 : i < (l.length : Int)) : ∀ (m : Nat) (k : Int), k + m = i -> 0 <= k -> ∀ (Kx : Nat -> List qP -> Int -> Int -> Prop) (Kr : Nat -> Bool -> Prop),
  (Ev (fun n => Z62.l10 n l t i k (Kx n) (Kr n)) ↔ if (((l.take i.toNat).drop k.toNat).any fun z => decide (z.1 = y.1)) = true then Ev (fun n => Kr n false) else Ev (fun n => Kx n l t i))
 | 0, k, h, h0, Kx, Kr => by
  refine Ev.suc.trans ?_
  simp (disch := omega) only [Z62.l10, Z62.l10.b, if_neg, decide_eq_true_eq, Ev.s3 Kx]
  rw [List.drop_eq_nil_of_le (by simp; omega)]
  simp
 | m + 1, k, h, h0, Kx, Kr => by
  refine Ev.suc.trans ?_
  have e : (l.take i.toNat).drop k.toNat = rd l k.toNat :: (l.take i.toNat).drop (k + 1).toNat := by
   have hk : k.toNat < (l.take i.toNat).length := by simp; omega
   rw [List.drop_eq_getElem_cons hk, show (k + 1).toNat = k.toNat + 1 from by omega]
   congr 1
   rw [List.getElem_take, rd, List.getD_eq_getElem?_getD, List.getElem?_eq_getElem (by omega)]; rfl
  simp (disch := omega) only [Z62.l10, Z62.l10.b, if_pos, decide_eq_true_eq, qC, hi, qM, Ev.iteI, beq_iff_eq, Ev.s1 Kr, e, List.any_cons, Bool.or_eq_true]
  rw [qCz hl hi hi0 hi1 m (k + 1) (by omega) (by omega), Ev.s1 Kr, Ev.s3 Kx]
  (repeat' split) <;> first | rfl | (exfalso; simp_all; done)
theorem qCy {l : List qP} (hl : l.length <= 60) : ∀ (ys : List qP) (x t : Int), l.drop x.toNat = ys -> 0 <= x -> 0 <= t -> t <= 4096 * x -> ∀ (R : Nat -> Bool -> Prop),
  (Ev (fun n => Z62.l5 n l t x (fun y => R n (decide (y <= 20000))) (R n)) ↔ Ev (fun n => R n (xH (l.take x.toNat) ys t)))
 | [], x, t, h, h0, ht, ht', R => by
  have := qO h h0
  refine Ev.suc.trans ?_
  simp (disch := omega) only [Z62.l5, Z62.l5.b, if_neg, decide_eq_true_eq, Ev.s1 R, xH]
 | y :: ys, x, t, h, h0, ht, ht', R => by
  obtain ⟨e1, e2, e3⟩ := qE h h0
  refine Ev.suc.trans ?_
  simp (disch := omega) only [Z62.l5, Z62.l5.b, if_pos, decide_eq_true_eq, qC, e2, qIK, qAl, Ev.iteI, Bool.not_eq_false', Bool.not_eq_true', decide_eq_false_iff_not, Ev.s1 R, xH, Z62.j3]
  by_cases h1 : qCm y.1 = true
  ·by_cases h2 : 1 <= y.2 /\ y.2 <= 4096
   ·rw [if_pos h1, if_neg (by omega), qCz hl e2 h0 e1 x.toNat 0 (by omega) (by omega), Ev.s1 R]
    simp (disch := omega) only [qC, e2, qM]
    rw [qCy hl ys (x + 1) (t + y.2) e3 (by omega) (by omega) (by omega) (fun n => R (n + 1)), Ev.s1 R, qEk h h0, show (0 : Int).toNat = 0 from rfl, List.drop_zero]
    split
    ·rename_i h3; simp [h1, h2, h3]
    ·rename_i h3; simp only [Bool.not_eq_true] at h3; simp [h1, h2, h3]
   ·rw [if_pos h1, if_pos h2]; simp [h1, h2]
  ·rw [if_neg h1]; simp [h1]
theorem qFV {l : List qP} (R : Nat -> Bool -> Prop) : Ev (fun n => Z62.c n l (R n)) ↔ Ev (fun n => R n (wJ l)) := by
 refine Ev.suc.trans ?_
 simp only [Z62.c, Z62.w, Ev.iteI, decide_eq_true_eq, wJ]
 by_cases h : l.length <= 60
 ·rw [if_neg (by omega), qCy h l 0 0 rfl (by omega) (by omega) (by omega) (fun n => R (n + 1)), Ev.s1 R]
  simp [h]
 ·rw [if_pos (by omega), Ev.s1 R]; simp [h]
def kU (d : List qP) (x : qA) (kw : List Int) : Int :=
 if x.1 = 1 /\ kw.length = 0 /\ 0 <= x.2.1 /\ x.2.1 <= (d.length : Int) - 1 then (rd d x.2.1.toNat).2
 else if x.1 = 2 /\ kw.length = 0 /\ zF x.2.2.2.2.1 x.2.2.2.2.2.1 = true then x.2.2.2.2.1
 else if x.1 = 3 /\ 1 < kw.length then kw.sum
 else if kw.length ≠ 1 then -1
 else if x.1 = 4 /\ 0 <= x.2.2.2.1 /\ x.2.2.2.1 <= x.2.2.1 /\ x.2.2.1 < rd kw 0 then x.2.2.1 - x.2.2.2.1 + 1
 else if (x.1 = 5 \/ x.1 = 6) /\ 0 <= x.2.2.1 /\ x.2.2.1 <= 4096 then rd kw 0 + x.2.2.1
 else if (x.1 = 7 \/ x.1 = 8) /\ 0 <= x.2.2.1 /\ x.2.2.1 <= 4096 then rd kw 0
 else if x.1 = 9 /\ 1 <= x.2.2.1 /\ x.2.2.1 <= 4096 then rd kw 0 * x.2.2.1
 else -1
theorem qPw {a b : Int} (h1 : 0 <= a) (h2 : a <= 8192) (h3 : 0 <= b) (h4 : b <= 4096) : 0 <= a * b /\ a * b <= 33554432 :=
 ⟨Int.mul_nonneg h1 h3, Int.le_trans (Int.mul_le_mul h2 h4 h3 (by decide)) (by decide)⟩
theorem qGi {kw : List Int} (hl : kw.length <= 4096) (hk : ∀ w ∈ kw, 0 <= w /\ w <= 4096) : ∀ (ys : List Int) (x s : Int), kw.drop x.toNat = ys -> 0 <= x -> 0 <= s -> s <= 4096 * x -> ∀ (Kx : Nat -> Int -> Prop),
  (Ev (fun n => Z5.l11 n kw kw.length s x (Kx n)) ↔ Ev (fun n => Kx n (s + ys.sum)))
 | [], x, s, h, h0, hs, hs', Kx => by
  have := qO h h0
  refine Ev.suc.trans ?_
  simp (disch := omega) only [Z5.l11, Z5.l11.b, if_neg, decide_eq_true_eq, Ev.s1 Kx, List.sum_nil, Int.add_zero]
 | y :: ys, x, s, h, h0, hs, hs', Kx => by
  obtain ⟨e1, e2, e3⟩ := qE h h0
  have hy : y ∈ kw := by
   have : y ∈ kw.drop x.toNat := by rw [h]; exact List.mem_cons_self
   exact List.mem_of_mem_drop this
  have hy' := hk y hy
  refine Ev.suc.trans ?_
  simp (disch := omega) only [Z5.l11, Z5.l11.b, if_pos, decide_eq_true_eq, qC, e2, qM]
  rw [qGi hl hk ys (x + 1) (s + y) e3 (by omega) (by omega) (by omega), Ev.s1 Kx]
  refine jV ?_
  rw [List.sum_cons]; omega
theorem qHY {x : qA} {f : Int} {b : Bool} (K : Nat -> Int -> Prop) (S : Nat -> Prop) :
  Ev (fun n => Z5.q21 n x f b (K n) (S n)) ↔ if b = true then Ev (fun n => K n (IntKind.wrap .i64 (f + x.2.2.1))) else
   if (x.1 = 7 \/ x.1 = 8) /\ 0 <= x.2.2.1 /\ x.2.2.1 <= 4096 then Ev (fun n => K n f) else if x.1 = 9 /\ 1 <= x.2.2.1 /\ x.2.2.1 <= 4096 then Ev (fun n => K n (IntKind.wrap .i64 (f * x.2.2.1))) else Ev S := by
 refine Ev.suc.trans ?_
 simp only [Z5.q21, Z5.q21.b, Z5.j0, kD, Ev.iteI, decide_eq_true_eq, decide_eq_false_iff_not, Ev.s1 K, Ev.s0 S, Bool.false_eq_true, if_false]
 (repeat' split) <;> first | rfl | (exfalso; omega)
theorem qJN {x : qA} {kw : List Int} {b : Bool} (hl : kw.length <= 4096) (hk : ∀ w ∈ kw, 0 <= w /\ w <= 4096) (hb : b = true ↔ x.1 = 3 /\ 1 < kw.length) (K : Nat -> Int -> Prop) (S : Nat -> Prop) :
  Ev (fun n => Z5.q9 n x kw (rd kw 0) b (K n) (S n)) ↔ if x.1 = 3 /\ 1 < kw.length then Ev (fun n => K n kw.sum) else if kw.length ≠ 1 then Ev (fun n => K n (-1)) else
   if x.1 = 4 /\ 0 <= x.2.2.2.1 /\ x.2.2.2.1 <= x.2.2.1 /\ x.2.2.1 < rd kw 0 then Ev (fun n => K n (x.2.2.1 - x.2.2.2.1 + 1))
   else if (x.1 = 5 \/ x.1 = 6) /\ 0 <= x.2.2.1 /\ x.2.2.1 <= 4096 then Ev (fun n => K n (rd kw 0 + x.2.2.1))
   else if (x.1 = 7 \/ x.1 = 8) /\ 0 <= x.2.2.1 /\ x.2.2.1 <= 4096 then Ev (fun n => K n (rd kw 0))
   else if x.1 = 9 /\ 1 <= x.2.2.1 /\ x.2.2.1 <= 4096 then Ev (fun n => K n (rd kw 0 * x.2.2.1)) else Ev S := by
 refine Ev.suc.trans ?_
 simp only [Z5.q9, Z5.q9.b, Z5.j1, Ev.iteI, hb]
 by_cases h3 : x.1 = 3 /\ 1 < kw.length
 ·rw [if_pos h3, if_pos h3, qGi hl hk kw 0 0 rfl (by omega) (by omega) (by omega), Ev.s1 K, Int.zero_add]
 rw [if_neg h3, if_neg h3]
 by_cases h1 : kw.length = 1
 ·have hf : 0 <= rd kw 0 /\ rd kw 0 <= 4096 := by
   match kw, h1, hk with
   | [w], _, hk => exact hk w List.mem_cons_self
  have h1' : (kw.length : Int) = 1 := by omega
  rw [if_neg (c := kw.length ≠ 1) (by omega)]
  simp only [h1', decide_true, Bool.not_true, Bool.false_eq_true, if_false]
  simp only [qHY, kD, Ev.iteI, decide_eq_true_eq, decide_eq_false_iff_not, Ev.s1 K, Ev.s0 S, Bool.false_eq_true, if_false, ge_iff_le]
  by_cases h4 : x.1 = 4
  ·simp only [h4, true_and, if_true, show ¬ (4 : Int) = 5 from by decide, show ¬ (4 : Int) = 6 from by decide, show ¬ (4 : Int) = 7 from by decide, show ¬ (4 : Int) = 8 from by decide, show ¬ (4 : Int) = 9 from by decide, or_self, false_and, if_false, not_false_eq_true]
   by_cases g1 : 0 <= x.2.2.2.1
   ·by_cases g2 : x.2.2.2.1 <= x.2.2.1
    ·by_cases g3 : x.2.2.1 < rd kw 0
     ·simp (disch := omega) only [g1, g2, g3, and_self, if_true, qM, decide_true]
     ·simp only [g1, g2, g3, and_false, if_true, if_false, decide_false, Bool.false_eq_true]
    ·simp only [g1, g2, false_and, and_false, if_true, if_false]
   ·simp only [g1, false_and, if_false]
  ·simp only [h4, false_and, if_false]
   by_cases h5 : (x.1 = 5 \/ x.1 = 6) /\ 0 <= x.2.2.1 /\ x.2.2.1 <= 4096
   ·have e : IntKind.wrap .i64 (rd kw 0 + x.2.2.1) = rd kw 0 + x.2.2.1 := qM (by omega) (by omega)
    rw [if_pos h5, e]
    rcases h5 with ⟨h5 | h5, h6⟩
    ·simp only [h5, h6, not_true, if_false, if_true, and_self]
    ·simp only [h5, h6, show ¬ (6 : Int) = 5 from by decide, not_false_eq_true, if_true, and_self]
   ·rw [if_neg h5]
    have e : 1 <= x.2.2.1 /\ x.2.2.1 <= 4096 -> IntKind.wrap .i64 (rd kw 0 * x.2.2.1) = rd kw 0 * x.2.2.1 := fun h => by
     have := qPw hf.1 (by omega) (show 0 <= x.2.2.1 by omega) h.2
     exact qM (by omega) (by omega)
    (repeat' split) <;> first | rfl | (exfalso; omega) | (exfalso; simp_all; done) | (rw [e (by omega)])
 ·have h1' : ¬ (kw.length : Int) = 1 := by omega
  simp only [h1, h1', ne_eq, not_false_eq_true, if_true, decide_false, Bool.not_false, Ev.s1 K]
theorem qDv {x : qA} {d : List qP} {kw : List Int} {b : Bool} (hl : kw.length <= 4096) (hk : ∀ w ∈ kw, 0 <= w /\ w <= 4096) (hb : b = true ↔ x.1 = 1 /\ kw.length = 0 /\ 0 <= x.2.1 /\ x.2.1 <= (d.length : Int) - 1) (R : Nat -> Int -> Prop) :
  Ev (fun n => Z5.q5 n x d kw (rd kw 0) b (R n) (R n (-1))) ↔ Ev (fun n => R n (kU d x kw)) := by
 refine Ev.suc.trans ?_
 simp only [Z5.q5, Z5.q5.b, Z5.j2, Ev.iteI, kU]
 by_cases h1 : x.1 = 1 /\ kw.length = 0 /\ 0 <= x.2.1 /\ x.2.1 <= (d.length : Int) - 1
 ·simp (disch := omega) only [hb.2 h1, if_true, qC, Ev.s1 R]
  rw [if_pos h1]
 have hb' : ¬ b = true := fun h => h1 (hb.1 h)
 rw [if_neg hb', if_neg h1]
 have q9 : ∀ (c : Bool), (c = true ↔ x.1 = 3 /\ 1 < kw.length) -> ((Ev fun n => Z5.q9 n x kw (rd kw 0) c (R (n + 1)) (R (n + 1) (-1))) ↔ Ev (fun n => R n (if x.1 = 3 /\ 1 < kw.length then kw.sum
   else if kw.length ≠ 1 then -1
   else if x.1 = 4 /\ 0 <= x.2.2.2.1 /\ x.2.2.2.1 <= x.2.2.1 /\ x.2.2.1 < rd kw 0 then x.2.2.1 - x.2.2.2.1 + 1
   else if (x.1 = 5 \/ x.1 = 6) /\ 0 <= x.2.2.1 /\ x.2.2.1 <= 4096 then rd kw 0 + x.2.2.1
   else if (x.1 = 7 \/ x.1 = 8) /\ 0 <= x.2.2.1 /\ x.2.2.1 <= 4096 then rd kw 0
   else if x.1 = 9 /\ 1 <= x.2.2.1 /\ x.2.2.1 <= 4096 then rd kw 0 * x.2.2.1
   else -1))) := fun c hc => by
  rw [qJN hl hk hc (fun n => R (n + 1)) (fun n => R (n + 1) (-1))]
  simp only [Ev.s1 R]
  (repeat' split) <;> first | rfl | (exfalso; omega)
 simp only [decide_eq_true_eq, Bool.false_eq_true, if_false, qEV, Ev.iteI, Ev.s1 R]
 have f3 : ¬ (x.1 = 3 /\ 1 < kw.length) -> (false = true ↔ x.1 = 3 /\ 1 < kw.length) := fun h => iff_of_false Bool.false_ne_true h
 by_cases h2 : x.1 = 2
 ·have h3 : ¬ x.1 = 3 := by omega
  have h3' : ¬ (x.1 = 3 /\ 1 < kw.length) := by omega
  rw [if_pos h2]
  by_cases h4 : kw.length = 0
  ·have h4' : (kw.length : Int) = 0 := by omega
   rw [if_pos h4']
   by_cases h5 : zF x.2.2.2.2.1 x.2.2.2.2.2.1 = true
   ·rw [if_pos h5, if_pos ⟨h2, h4, h5⟩]
   ·rw [if_neg h5, if_neg h3, q9 false (f3 h3'), if_neg (c := x.1 = 2 /\ kw.length = 0 /\ zF x.2.2.2.2.1 x.2.2.2.2.2.1 = true) (fun h => h5 h.2.2)]
  ·have h4' : ¬ (kw.length : Int) = 0 := by omega
   rw [if_neg h4', if_neg h3, q9 false (f3 h3'), if_neg (c := x.1 = 2 /\ kw.length = 0 /\ zF x.2.2.2.2.1 x.2.2.2.2.2.1 = true) (fun h => h4 h.2.1)]
 ·rw [if_neg h2, if_neg (c := x.1 = 2 /\ kw.length = 0 /\ zF x.2.2.2.2.1 x.2.2.2.2.2.1 = true) (fun h => h2 h.1)]
  by_cases h3 : x.1 = 3
  ·rw [if_pos h3, q9 _ (by rw [decide_eq_true_eq]; omega)]
  ·rw [if_neg h3, q9 false (f3 (fun h => h3 h.1))]
theorem qJO {x : qA} {d : List qP} {kw : List Int} (hd : d.length <= 1099511627776) (hl : kw.length <= 4096) (hk : ∀ w ∈ kw, 0 <= w /\ w <= 4096) (R : Nat -> Int -> Prop) :
  Ev (fun n => Z5.c n x d kw (R n)) ↔ Ev (fun n => R n (kU d x kw)) := by
 refine Ev.suc.trans ?_
 have key : ∀ (f : Int), f = rd kw 0 -> ((Ev fun n => Z5.j3 (R (n + 1)) x d kw (Z5.q5 n) n f) ↔ Ev (fun n => R n (kU d x kw))) := by
  rintro f rfl
  simp (disch := omega) only [Z5.j3, Ev.iteI, decide_eq_true_eq, kD, qM]
  by_cases h1 : x.1 = 1
  ·by_cases h2 : (kw.length : Int) = 0
   ·rw [if_pos h1, if_pos h2, qDv hl hk (by rw [decide_eq_true_eq]; omega) (fun n => R (n + 1)), Ev.s1 R]
   ·rw [if_pos h1, if_neg h2, qDv hl hk (iff_of_false Bool.false_ne_true (by omega)) (fun n => R (n + 1)), Ev.s1 R]
  ·rw [if_neg h1, qDv hl hk (iff_of_false Bool.false_ne_true (by omega)) (fun n => R (n + 1)), Ev.s1 R]
 simp only [Z5.c, Z5.w, Ev.iteI, decide_eq_true_eq]
 by_cases h : (kw.length : Int) > 0
 ·rw [if_pos h]
  simp (disch := omega) only [zG]
  exact key _ rfl
 ·rw [if_neg h]
  refine key 0 ?_
  match kw, h with
  | [], _ => rfl
  | _ :: _, h => simp at h
def vN (x : qA) : Bool := decide (((4 <= x.1 /\ x.1 <= 9) \/ x.2.2.1 = 0) /\ (x.1 = 4 \/ x.2.2.2.1 = 0) /\ (x.1 = 1 \/ x.2.1 = 0) /\ (x.1 = 2 \/ (x.2.2.2.2.1 = 0 /\ x.2.2.2.2.2.1.length = 0)))
theorem qJX {x : qA} {b : Bool} (R : Nat -> Bool -> Prop) (S : Nat -> qA -> Prop) :
  Ev (fun n => Z4.q3 n x b (R n) (S n)) ↔ if b = true then Ev (fun n => R n false) else Ev (fun n => S n x) := by
 refine Ev.suc.trans ?_
 simp only [Z4.q3, Z4.q3.b, Ev.iteI, Ev.s1 R, Ev.s1 S]
theorem qGA {x : qA} {b : Bool} (hb : b = true ↔ (4 <= x.1 /\ x.1 <= 9)) (R : Nat -> Bool -> Prop) :
  Ev (fun n => Z4.q2 n x b (R n)) ↔ Ev (fun n => R n (vN x)) := by
 refine Ev.suc.trans ?_
 have hb' : b = false ↔ ¬ (4 <= x.1 /\ x.1 <= 9) := by rw [<- hb]; simp
 simp only [Z4.q2, Z4.q2.b, Z4.j0, qJX, Ev.iteI, Ev.s1 R, Bool.not_eq_true', Bool.not_eq_false', decide_eq_true_eq, decide_eq_false_iff_not, Bool.false_eq_true, if_false, if_true, hb']
 (repeat' split) <;> first
  | (refine jV ?_; symm; rw [vN, decide_eq_false_iff_not]; omega)
  | (refine jV ?_; symm; rw [vN, decide_eq_true_eq]; omega)
  | (refine jV ?_; rw [vN, decide_eq_decide]; omega)
theorem qJY {x : qA} (R : Nat -> Bool -> Prop) : Ev (fun n => Z4.c n x (R n)) ↔ Ev (fun n => R n (vN x)) := by
 refine Ev.suc.trans ?_
 simp only [Z4.c, Z4.w, Ev.iteI, decide_eq_true_eq, ge_iff_le]
 split
 ·rename_i h; rw [qGA (by rw [decide_eq_true_eq]; omega) (fun n => R (n + 1)), Ev.s1 R]
 ·rename_i h; rw [qGA (by simp; omega) (fun n => R (n + 1)), Ev.s1 R]
def jK (i : Int) (ks : List Int) : Bool := ks.all fun k => decide (0 <= k /\ k <= i - 1)
theorem zP {i y : Int} {ys : List Int} : jK i (y :: ys) = true ↔ (0 <= y /\ y <= i - 1) /\ jK i ys = true := by
 rw [jK, jK, List.all_cons, Bool.and_eq_true, decide_eq_true_eq]
def kI (d : List qP) (x : qA) : Bool := decide ((x.1 = 1 /\ x.2.2.2.2.2.2.length = 0 /\ 0 <= x.2.1 /\ x.2.1 <= (d.length : Int) - 1) \/ (x.1 = 2 /\ x.2.2.2.2.2.2.length = 0 /\ zF x.2.2.2.2.1 x.2.2.2.2.2.1 = true) \/ (x.1 = 3 /\ 2 <= x.2.2.2.2.2.2.length) \/ (4 <= x.1 /\ x.1 <= 9 /\ x.2.2.2.2.2.2.length = 1))
theorem qIy {a : Int} {l : List Int} (R : Nat -> Bool -> Prop) : Ev (fun n => Z71.c n a l (R n)) ↔ Ev (fun n => R n (decide (a = 0 /\ l.length = 0))) := by
 refine Ev.suc.trans ?_
 simp only [Z71.c, Z71.w, Ev.iteI, decide_eq_true_eq, Ev.s1 R]
 split
 ·refine jV ?_; rw [decide_eq_decide]; omega
 ·refine jV ?_; symm; rw [decide_eq_false_iff_not]; omega
theorem qGM {a : Int} (R : Nat -> Bool -> Prop) : Ev (fun n => Z72.c n a (R n)) ↔ Ev (fun n => R n (decide (4 <= a /\ a <= 9))) := by
 refine Ev.suc.trans ?_
 simp only [Z72.c, Z72.w, qAl, Ev.s1 R]
theorem qIU {d : List qP} {i a b c e f : Int} {w ks : List Int} (hl : ks.length <= 1099511627776) (hi0 : 0 <= i) (hi : i <= 1048576) : ∀ (ys : List Int) (x : Int), ks.drop x.toNat = ys -> 0 <= x ->
  ∀ (Kx : Nat -> List qP -> Int -> Int -> Int -> Int -> Int -> List Int -> List Int -> Prop) (Kr : Nat -> Bool -> Prop),
  (Ev (fun n => Z70.l2 n d i a b c e f w ks x (Kx n) (Kr n)) ↔ if jK i ys = true then Ev (fun n => Kx n d a b c e f w ks) else Ev (fun n => Kr n false))
 | [], x, h, h0, Kx, Kr => by
  have := qO h h0
  refine Ev.suc.trans ?_
  simp (disch := omega) only [Z70.l2, Z70.l2.b, if_neg, decide_eq_true_eq, Ev.s8 Kx, jK, List.all_nil, if_true]
 | y :: ys, x, h, h0, Kx, Kr => by
  obtain ⟨e1, e2, e3⟩ := qE h h0
  refine Ev.suc.trans ?_
  simp (disch := omega) only [Z70.l2, Z70.l2.b, if_pos, decide_eq_true_eq, decide_eq_false_iff_not, Bool.not_eq_true', qC, e2, qM, qAl, Ev.iteI, Ev.s1 Kr]
  rw [qIU hl hi0 hi ys (x + 1) e3 (by omega), Ev.s1 Kr, Ev.s8 Kx]
  simp only [zP]
  by_cases h1 : 0 <= y /\ y <= i - 1
  ·rw [if_neg (fun h => h h1)]
   simp only [h1, true_and, and_self]
  ·rw [if_pos h1, if_neg (fun h => h1 h.1)]
theorem qLO {d : List qP} {g : Bool} {a b c e f : Int} {w ks : List Int} (R : Nat -> Bool -> Prop) (S : Nat -> List qP -> Int -> Int -> Int -> Int -> Int -> List Int -> List Int -> Prop) :
  Ev (fun n => Z70.q7 n d g a b c e f w ks (R n) (S n)) ↔ if g = true then Ev (fun n => R n false) else Ev (fun n => S n d a b c e f w ks) := by
 refine Ev.suc.trans ?_
 simp only [Z70.q7, Z70.q7.b, Ev.iteI, Ev.s1 R, Ev.s8 S]
theorem qLN {d : List qP} {a b c e f : Int} {w ks : List Int} (hd : d.length <= 1099511627776) (hw : Wd w) (R : Nat -> Bool -> Prop) :
  Ev (fun n => Z70.q8 n d a b c e f w ks (R n)) ↔ Ev (fun n => R n (kI d (a, b, c, e, f, w, ks))) := by
 refine Ev.suc.trans ?_
 simp (disch := first | assumption | omega) only [Z70.q8, Z70.q8.b, Ev.iteI, decide_eq_true_eq, qAl, qGM, qH9, qM, Ev.s1 R]
 have key : ∀ (b' : Bool), (b' = true ↔ kI d (a, b, c, e, f, w, ks) = true) -> ((Ev fun n => R n b') ↔ Ev fun n => R n (kI d (a, b, c, e, f, w, ks))) := fun b' h => by
  rw [Bool.eq_iff_iff.2 h]
 simp only [kI, decide_eq_true_eq] at key
 (repeat' split) <;> refine key _ ?_ <;> first
  | (simp only [decide_eq_true_eq, Bool.false_eq_true, false_iff]; omega)
  | (simp only [decide_eq_true_eq, Bool.false_eq_true, false_iff]; constructor <;> intro h <;> simp_all <;> omega)
  | (simp_all; done) | (simp_all; omega)
theorem qLP {d : List qP} {i a b c e f : Int} {w ks : List Int} (hd : d.length <= 1099511627776) (hw : Wd w) (hl : ks.length <= 1099511627776) (hi0 : 0 <= i) (hi : i <= 1048576) (R : Nat -> Bool -> Prop) :
  Ev (fun n => Z70.c n d a b c e f w ks i (R n)) ↔ Ev (fun n => R n (jK i ks && vN (a, b, c, e, f, w, ks) && kI d (a, b, c, e, f, w, ks))) := by
 refine Ev.suc.trans ?_
 simp only [Z70.c, Z70.w]
 rw [qIU hl hi0 hi ks 0 rfl (by omega)]
 by_cases hk : jK i ks = true
 ·rw [if_pos hk, hk, Bool.true_and]
  simp only [Ev.iteI, Bool.not_eq_true', Bool.not_eq_false', decide_eq_true_eq, decide_eq_false_iff_not, qIy, qGM, qLO, qLN hd hw, Ev.s1 R, Bool.false_eq_true, if_false, if_true]
  have T : vN (a, b, c, e, f, w, ks) = true -> ((Ev fun n => R n (kI d (a, b, c, e, f, w, ks))) ↔ Ev fun n => R n (vN (a, b, c, e, f, w, ks) && kI d (a, b, c, e, f, w, ks))) := fun h => by rw [h, Bool.true_and]
  have F : vN (a, b, c, e, f, w, ks) = false -> ((Ev fun n => R n false) ↔ Ev fun n => R n (vN (a, b, c, e, f, w, ks) && kI d (a, b, c, e, f, w, ks))) := fun h => by rw [h, Bool.false_and]
  simp only [vN, decide_eq_true_eq, decide_eq_false_iff_not] at T F
  (repeat' split) <;> first
   | (refine T ?_; omega)
   | (refine F ?_; omega)
 ·rw [if_neg hk, show jK i ks = false from by simpa using hk, Bool.false_and, Bool.false_and, Ev.s1 R]
def WOk (l : List Int) : Prop := ∀ w ∈ l, 1 <= w /\ w <= 4096
theorem WOk.cons {y : Int} {r : List Int} (h : WOk (y :: r)) : (1 <= y /\ y <= 4096) /\ WOk r := ⟨h y List.mem_cons_self, fun w hw => h w (List.mem_cons_of_mem _ hw)⟩
def vO (s : Int) : List Int -> Int
 | [] => s
 | y :: r => vO (if s + y < 8192 then s + y else 8192) r
theorem qGq : ∀ {l : List Int}, WOk l -> (l.length : Int) <= l.sum
 | [], _ => by simp
 | y :: r, h => by
  have := qGq h.cons.2
  have := h.cons.1
  rw [List.sum_cons, List.length_cons]; omega
theorem qDn : ∀ {r : List Int}, WOk r -> vO 8192 r = 8192
 | [], _ => rfl
 | y :: r, h => by
  have := h.cons.1
  rw [vO, if_neg (by omega), qDn h.cons.2]
theorem qAT : ∀ {l : List Int} {s : Int}, 0 <= s -> s <= 8192 -> WOk l -> vO s l = if s + l.sum < 8192 then s + l.sum else 8192
 | [], s, h0, h1, hw => by
  rw [vO, List.sum_nil]; split <;> omega
 | y :: r, s, h0, h1, hw => by
  have hy := hw.cons.1
  have hr := hw.cons.2
  have hs := qGq hr
  rw [vO, List.sum_cons]
  by_cases h : s + y < 8192
  ·rw [if_pos h, qAT (by omega) (by omega) hr]
   simp only [Int.add_assoc]
  ·rw [if_neg h, qDn hr, if_neg (by omega)]
def acc (w : Int) : Option Int := if 1 <= w /\ w <= 4096 then some w else none
def qA7 (d : List qP) (x : qA) (s : Int) : Int :=
 if x.1 = 1 then (rd d x.2.1.toNat).2
 else if x.1 = 2 then x.2.2.2.2.1
 else if x.1 = 4 then (if x.2.2.2.1 < 0 \/ x.2.2.1 < x.2.2.2.1 \/ x.2.2.1 >= s then -1 else x.2.2.1 - x.2.2.2.1 + 1)
 else if x.1 = 5 \/ x.1 = 6 then (if 0 <= x.2.2.1 /\ x.2.2.1 <= 4096 then s + x.2.2.1 else -1)
 else if x.1 = 7 \/ x.1 = 8 then (if 0 <= x.2.2.1 /\ x.2.2.1 <= 4096 then s else -1)
 else if x.1 = 9 then (if 1 <= x.2.2.1 /\ x.2.2.1 <= 4096 then s * x.2.2.1 else -1)
 else s
theorem qJ1 {d : List qP} {x : qA} {w : Int} (h1 : 4 <= x.1) (h2 : x.1 <= 9) : kU d x [w] = qA7 d x w := by
 have e : rd [w] 0 = w := rfl
 have e1 : [w].length = 1 := rfl
 rw [kU, e, e1, if_neg (by omega), if_neg (by omega), if_neg (by omega), if_neg (by omega), qA7, if_neg (c := x.1 = 1) (by omega), if_neg (c := x.1 = 2) (by omega)]
 have h : x.1 = 4 \/ x.1 = 5 \/ x.1 = 6 \/ x.1 = 7 \/ x.1 = 8 \/ x.1 = 9 := by omega
 rcases h with h | h | h | h | h | h
 ·rw [if_pos (c := x.1 = 4) h]
  by_cases c : 0 <= x.2.2.2.1 /\ x.2.2.2.1 <= x.2.2.1 /\ x.2.2.1 < w
  ·rw [if_pos ⟨h, c⟩, if_neg (by omega)]
  ·rw [if_neg (fun hh => c hh.2), if_neg (by omega), if_neg (by omega), if_neg (by omega), if_pos (by omega)]
 all_goals
  rw [if_neg (c := x.1 = 4) (by omega), if_neg (by omega)]
 ·rw [if_pos (c := x.1 = 5 \/ x.1 = 6) (by omega)]
  by_cases c : 0 <= x.2.2.1 /\ x.2.2.1 <= 4096
  ·rw [if_pos ⟨Or.inl h, c⟩, if_pos c]
  ·rw [if_neg (fun hh => c hh.2), if_neg (by omega), if_neg (by omega), if_neg c]
 ·rw [if_pos (c := x.1 = 5 \/ x.1 = 6) (by omega)]
  by_cases c : 0 <= x.2.2.1 /\ x.2.2.1 <= 4096
  ·rw [if_pos ⟨Or.inr h, c⟩, if_pos c]
  ·rw [if_neg (fun hh => c hh.2), if_neg (by omega), if_neg (by omega), if_neg c]
 ·rw [if_neg (c := x.1 = 5 \/ x.1 = 6) (by omega), if_neg (by omega), if_pos (c := x.1 = 7 \/ x.1 = 8) (by omega)]
  by_cases c : 0 <= x.2.2.1 /\ x.2.2.1 <= 4096
  ·rw [if_pos ⟨Or.inl h, c⟩, if_pos c]
  ·rw [if_neg (fun hh => c hh.2), if_neg (by omega), if_neg c]
 ·rw [if_neg (c := x.1 = 5 \/ x.1 = 6) (by omega), if_neg (by omega), if_pos (c := x.1 = 7 \/ x.1 = 8) (by omega)]
  by_cases c : 0 <= x.2.2.1 /\ x.2.2.1 <= 4096
  ·rw [if_pos ⟨Or.inr h, c⟩, if_pos c]
  ·rw [if_neg (fun hh => c hh.2), if_neg (by omega), if_neg c]
 ·rw [if_neg (c := x.1 = 5 \/ x.1 = 6) (by omega), if_neg (by omega), if_neg (by omega), if_neg (c := x.1 = 7 \/ x.1 = 8) (by omega), if_pos (c := x.1 = 9) h]
  by_cases c : 1 <= x.2.2.1 /\ x.2.2.1 <= 4096
  ·rw [if_pos ⟨h, c⟩, if_pos c]
  ·rw [if_neg (fun hh => c hh.2), if_neg c]
theorem qH6 {d : List qP} {x : qA} {kw : List Int} (hw : WOk kw) (hl : kw.length = x.2.2.2.2.2.2.length) :
  (if x.2.2.2.2.2.2.length <= 4096 then acc (kU d x kw) else none) = if kI d x = true then acc (qA7 d x (vO 0 kw)) else none := by
 rw [<- hl]
 rw [qAT (by omega) (by omega) hw, Int.zero_add]
 have hs := qGq hw
 by_cases hk : kI d x = true
 ·rw [if_pos hk]
  rw [kI, decide_eq_true_eq, <- hl] at hk
  rcases hk with ⟨h1, h2, h3, h4⟩ | ⟨h1, h2, h3⟩ | ⟨h1, h2⟩ | ⟨h1, h2, h3⟩
  ·rw [if_pos (by omega), kU, if_pos ⟨h1, h2, h3, h4⟩, qA7, if_pos h1]
  ·rw [if_pos (by omega), kU, if_neg (by omega), if_pos ⟨h1, h2, h3⟩, qA7, if_neg (by omega), if_pos h1]
  ·have hn : kU d x kw = kw.sum := by rw [kU, if_neg (by omega), if_neg (by omega), if_pos (by omega)]
   have hq : ∀ s, qA7 d x s = s := fun s => by rw [qA7, if_neg (by omega), if_neg (by omega), if_neg (by omega), if_neg (by omega), if_neg (by omega), if_neg (by omega)]
   rw [hn, hq]
   unfold acc
   (repeat' split) <;> first | rfl | (exfalso; omega)
  ·rw [if_pos (by omega)]
   match kw, h3, hw with
   | [w], _, hw =>
    have h := hw w List.mem_cons_self
    have hs : (if [w].sum < 8192 then [w].sum else 8192) = w := by
     simp only [List.sum_cons, List.sum_nil, Int.add_zero]; rw [if_pos (by omega)]
    rw [hs]
    have hn := qJ1 (d := d) (x := x) (w := w) h1 h2
    rw [hn]
 ·rw [if_neg hk]
  rw [kI, decide_eq_true_eq, <- hl] at hk
  have : kU d x kw = -1 := by
   rw [kU, if_neg (by omega), if_neg (by rintro ⟨h1, h2, h3⟩; exact hk (Or.inr (Or.inl ⟨h1, h2, h3⟩))), if_neg (by omega)]
   by_cases h1 : kw.length ≠ 1
   ·rw [if_pos h1]
   ·rw [if_neg h1, if_neg (by omega), if_neg (by omega), if_neg (by omega), if_neg (by omega)]
  rw [this]
  split <;> rfl
def kH (d : List qP) (x : qA) (wide : List Int) : Option Int :=
 if jK wide.length x.2.2.2.2.2.2 = true /\ vN x = true /\ kI d x = true then acc (qA7 d x (vO 0 (x.2.2.2.2.2.2.map fun k => rd wide k.toNat))) else none
def vA (u : List Bool) : List Int -> List Bool
 | [] => u
 | k :: r => vA (u.set k.toNat true) r
theorem vQ : ∀ {ks : List Int} {u : List Bool}, (vA u ks).length = u.length
 | [], u => rfl
 | k :: r, u => by rw [vA, vQ, List.length_set]
def jG (d : List qP) : List qA -> List Int -> List Bool -> Option (List Int × List Bool)
 | [], wide, used => some (wide, used)
 | x :: r, wide, used => match kH d x wide with
  | some w => jG d r (wide ++ [w]) (vA used x.2.2.2.2.2.2)
  | none => none
theorem qIm {l : List Int} {k : Int} (h0 : 0 <= k) (h1 : k < (l.length : Int)) : rd l k.toNat ∈ l := by
 rw [rd, List.getD_eq_getElem?_getD, List.getElem?_eq_getElem (by omega)]
 exact List.getElem_mem _
theorem qC4 {α : Type} [Inhabited α] {a b : List α} {k : Nat} (h : k < a.length) : rd (a ++ b) k = rd a k := by
 rw [rd, rd, List.getD_eq_getElem?_getD, List.getD_eq_getElem?_getD, List.getElem?_append_left h]
theorem qBV {wide ks : List Int} (hw : WOk wide) (hk : jK wide.length ks = true) : WOk (ks.map fun k => rd wide k.toNat) := by
 intro w hw'
 obtain ⟨k, hk', rfl⟩ := List.mem_map.1 hw'
 rw [jK, List.all_eq_true] at hk
 have := hk k hk'
 rw [decide_eq_true_eq] at this
 exact hw _ (qIm this.1 (by omega))
theorem qHa {w v : Int} (h : acc w = some v) : v = w /\ 1 <= w /\ w <= 4096 := by
 unfold acc at h
 split at h
 ·rename_i hh; cases h; exact ⟨rfl, hh⟩
 ·cases h
theorem qGs {d : List qP} {x : qA} {wide : List Int} {w : Int} (h : kH d x wide = some w) : 1 <= w /\ w <= 4096 := by
 unfold kH at h
 split at h
 ·obtain ⟨rfl, h1⟩ := qHa h; exact h1
 ·cases h
theorem WOk.app {wide : List Int} {w : Int} (h : WOk wide) (hw : 1 <= w /\ w <= 4096) : WOk (wide ++ [w]) := by
 intro v hv
 rcases List.mem_append.1 hv with hv | hv
 ·exact h v hv
 ·rw [List.mem_singleton] at hv; subst hv; exact hw
theorem wT {d : List qP} : ∀ {ys : List qA} {wide : List Int} {used : List Bool} {r : List Int × List Bool}, WOk wide -> jG d ys wide used = some r -> WOk r.1 /\ r.1.length = wide.length + ys.length /\ r.2.length = used.length
 | [], wide, used, r, hw, h => by
  rw [jG] at h; cases h; exact ⟨hw, rfl, rfl⟩
 | x :: ys, wide, used, r, hw, h => by
  rw [jG] at h
  cases hs : kH d x wide with
  | none => rw [hs] at h; cases h
  | some w =>
   rw [hs] at h
   obtain ⟨h1, h2, h3⟩ := wT (hw.app (qGs hs)) h
   refine ⟨h1, ?_, ?_⟩
   ·rw [h2]; simp; omega
   ·rw [h3, vQ]
theorem qIM {d : List qP} {m i a b : Int} {x : qA} {ks out : List Int} {nodes : List qA} (hl : ks.length <= 4096) (hi0 : 0 <= i) (hi : i <= (out.length : Int)) (hi' : i <= 1048576) : ∀ (ys : List Int) (j : Int) (used : List Bool) (kw : List Int), ks.drop j.toNat = ys -> 0 <= j -> i <= (used.length : Int) -> kw.length = ks.length ->
  ∀ (Kx : Nat -> List qP -> Int -> Int -> qA -> Int -> Int -> List Int -> List Bool -> List Int -> List qA -> Prop) (Kr : Nat -> Bool -> List Int -> Prop),
  (Ev (fun n => Z20.l13 n d m i x a b ks ks.length out nodes j used kw (Kx n) (Kr n)) ↔
   if jK i ys = true then Ev (fun n => Kx n d m i x a b out (vA used ys) (kw.take j.toNat ++ ys.map fun k => rd out k.toNat) nodes) else Ev (fun n => Kr n false []))
 | [], j, used, kw, h, h0, hu, hkw, Kx, Kr => by
  have := qO h h0
  refine Ev.suc.trans ?_
  simp (disch := omega) only [Z20.l13, Z20.l13.b, if_neg, decide_eq_true_eq, Ev.s10 Kx, jK, List.all_nil, if_true, vA, List.map_nil, List.append_nil]
  rw [List.take_of_length_le (by omega)]
 | y :: ys, j, used, kw, h, h0, hu, hkw, Kx, Kr => by
  obtain ⟨e1, e2, e3⟩ := qE h h0
  refine Ev.suc.trans ?_
  simp (disch := omega) only [Z20.l13, Z20.l13.b, if_pos, decide_eq_true_eq, decide_eq_false_iff_not, Bool.not_eq_true', qC, e2, qM, kD, Ev.iteI, Ev.s2 Kr]
  by_cases h1 : 0 <= y /\ y <= i - 1
  ·rw [if_neg (fun h => h h1)]
   rw [qIM hl hi0 hi hi' ys (j + 1) _ _ e3 (by omega) (by simpa using hu) (by simpa using hkw), Ev.s10 Kx, Ev.s2 Kr, wP (by omega) (by omega)]
   simp only [zP, h1, and_self, true_and, vA, List.map_cons, List.append_assoc, List.singleton_append]
  ·rw [if_pos h1, if_neg]
   rw [zP]
   exact fun h => h1 h.1
theorem qEf {d : List qP} {t : List qA} (hd : d.length <= 1099511627776) (ht : t.length <= 400) : ∀ (ys : List qA) (wide z : List Int) (used : List Bool), t.drop wide.length = ys -> (wide ++ z).length = t.length -> used.length = t.length -> WOk wide ->
  ∀ (Kx : Nat -> Int -> List Int -> List Bool -> Prop) (Kr : Nat -> Bool -> List Int -> Prop),
  (Ev (fun n => Z20.l6 n d t.length t.length wide.length (wide ++ z) used t (Kx n) (Kr n)) ↔ match jG d ys wide used with
   | some r => Ev (fun n => Kx n t.length r.1 r.2)
   | none => Ev (fun n => Kr n false []))
 | [], wide, z, used, h, hz, hu, hw, Kx, Kr => by
  have hle := List.drop_eq_nil_iff.1 h
  have hz0 : z = [] := by
   rw [List.length_append] at hz
   exact List.eq_nil_of_length_eq_zero (by omega)
  subst hz0
  refine Ev.suc.trans ?_
  simp (disch := omega) only [Z20.l6, Z20.l6.b, if_neg, decide_eq_true_eq, Ev.s3 Kx, jG, List.append_nil]
 | x :: ys, wide, z, used, h, hz, hu, hw, Kx, Kr => by
  have h' : t.drop (wide.length : Int).toNat = x :: ys := h
  obtain ⟨e1, e2, e3⟩ := qE h' (by omega)
  have e2' : rd t wide.length = x := e2
  rw [List.length_append] at hz
  refine Ev.suc.trans ?_
  simp (disch := omega) only [Z20.l6, Z20.l6.b, if_pos, decide_eq_true_eq, Ev.iteI, qC, Int.toNat_natCast, e2', Ev.s2 Kr]
  rw [jG]
  have hse := qH6 (d := d) (x := x) (kw := x.2.2.2.2.2.2.map fun k => rd wide k.toNat)
  by_cases hk : x.2.2.2.2.2.2.length <= 4096
  ·rw [if_neg (by omega)]
   simp (disch := omega) only [qC, decide_true, Bool.and_true]
   rw [qIM hk (by omega) (by rw [List.length_append]; omega) (by omega) x.2.2.2.2.2.2 0 _ _ rfl (by omega) (by omega) (by simp), Ev.s2 Kr]
   by_cases hin : jK wide.length x.2.2.2.2.2.2 = true
   ·rw [if_pos hin]
    have hwk := qBV hw hin
    have hmap : (x.2.2.2.2.2.2.map fun k => rd (wide ++ z) k.toNat) = x.2.2.2.2.2.2.map fun k => rd wide k.toNat := by
     apply List.map_congr_left
     intro k hk'
     rw [jK, List.all_eq_true] at hin
     have := hin k hk'
     rw [decide_eq_true_eq] at this
     exact qC4 (by omega)
    have hse := hse hwk (by simp)
    rw [if_pos hk] at hse
    simp only [Int.toNat_zero, List.take_zero, List.nil_append, hmap]
    simp (disch := first | assumption | (simp only [List.length_map, List.length_append, List.length_set]; omega) | omega) only [qJO hd (by simpa using hk) (fun w hw' => ⟨by have := hwk w hw'; omega, (hwk w hw').2⟩), qJY, Ev.iteI, Bool.not_eq_false', qC, qBu, Int.toNat_natCast, kD, Bool.not_eq_true', decide_eq_false_iff_not, qM, Ev.s2 Kr]
    by_cases hp : vN x = true
    ·rw [if_pos hp]
     have hst : kH d x wide = acc (kU d x (x.2.2.2.2.2.2.map fun k => rd wide k.toNat)) := by
      rw [hse, kH]
      by_cases hkb : kI d x = true
      ·rw [if_pos ⟨hin, hp, hkb⟩, if_pos hkb]
      ·rw [if_neg (fun h => hkb h.2.2), if_neg hkb]
     by_cases hacc : 1 <= kU d x (x.2.2.2.2.2.2.map fun k => rd wide k.toNat) /\ kU d x (x.2.2.2.2.2.2.map fun k => rd wide k.toNat) <= 4096
     ·rw [if_neg (fun h => h hacc)]
      rw [hst, acc, if_pos hacc]
      simp only []
      match z, hz with
      | [], hz => simp at hz; omega
      | v :: z, hz =>
       have es : (wide ++ v :: z).set wide.length (kU d x (x.2.2.2.2.2.2.map fun k => rd wide k.toNat)) = (wide ++ [kU d x (x.2.2.2.2.2.2.map fun k => rd wide k.toNat)]) ++ z := by
        rw [List.set_append_right _ _ (Nat.le_refl _), Nat.sub_self, List.set_cons_zero, List.append_assoc]; rfl
       rw [es]
       have el : ((wide.length : Int) + 1) = ((wide ++ [kU d x (x.2.2.2.2.2.2.map fun k => rd wide k.toNat)]).length : Int) := by simp
       rw [el, qEf hd ht ys _ z _ (by rw [<- e3, List.length_append]; rfl) (by simp at hz ⊢; omega) (by rw [vQ]; exact hu) (hw.app hacc)]
       cases jG d ys (wide ++ [kU d x (x.2.2.2.2.2.2.map fun k => rd wide k.toNat)]) (vA used x.2.2.2.2.2.2) with
       | none => exact Ev.s2 Kr _ _
       | some r => exact Ev.s3 Kx _ _ _
     ·rw [if_pos hacc, hst, acc, if_neg hacc]
    ·rw [if_neg hp, kH, if_neg (fun h => hp h.2.1)]
   ·rw [if_neg hin, kH, if_neg (fun h => hin h.1)]
  ·rw [if_pos (by omega)]
   have : kH d x wide = none := by
    unfold kH
    split
    ·rename_i hh
     have hse := hse (qBV hw hh.1) (by simp)
     rw [if_neg hk, if_pos hh.2.2] at hse
     exact hse.symm
    ·rfl
   rw [this]
theorem qKX {l : List Bool} {v : Bool} (hl : l.length <= 1099511627776) : ∀ (ys : List Bool) (x : Int), l.drop x.toNat = ys -> 0 <= x ->
  ∀ (Kx : Nat -> Prop) (Kr : Nat -> Int -> Prop),
  (Ev (fun n => Z60.l2 n l v l.length x (Kx n) (Kr n)) ↔ if qS (fun y => v == y) ys x < 0 then Ev Kx else Ev (fun n => Kr n (qS (fun y => v == y) ys x)))
 | [], x, h, h0, Kx, Kr => by
  have := qO h h0
  rw [qS, if_pos (by decide)]
  refine Ev.suc.trans ?_
  simp (disch := omega) only [Z60.l2, Z60.l2.b, if_neg, decide_eq_true_eq, Ev.s0 Kx]
 | y :: ys, x, h, h0, Kx, Kr => by
  obtain ⟨e1, e2, e3⟩ := qE h h0
  refine Ev.suc.trans ?_
  simp (disch := first | omega | omega) only [Z60.l2, Z60.l2.b, if_pos, decide_eq_true_eq, qC, e2, qM, Ev.s1 Kr, Ev.s0 Kx, Ev.iteI]
  rw [qKX hl ys (x + 1) e3 (by omega), Ev.s0 Kx, Ev.s1 Kr]
  simp only [qS, decide_eq_true_eq]
  split
  ·rw [if_neg (by omega)]
  ·rfl
theorem qNm {l : List Bool} {v : Bool} (hl : l.length <= 1099511627776) (R : Nat -> Int -> Prop) :
  Ev (fun n => Z60.c n l v (R n)) ↔ Ev (fun n => R n (qS (fun y => v == y) l 0)) := by
 refine Ev.suc.trans ?_
 simp only [Z60.c, Z60.w]
 rw [qKX hl l 0 rfl (by omega), Ev.s1 R, Ev.s1 R]
 split
 ·rw [qAn (by omega) ‹_›]
 ·rfl
theorem qNq {l : List Bool} {v : Bool} (hl : l.length <= 1099511627776) (R : Nat -> Bool -> Prop) :
  Ev (fun n => Z58.c n l v (R n)) ↔ Ev (fun n => R n (l.any fun y => v == y)) := by
 refine Ev.suc.trans ?_
 simp only [Z58.c, Z58.w]
 rw [qNm hl, Ev.s1 R, qAo (by omega)]
theorem qJq (l : List Bool) : (!(l.any fun y => false == y)) = l.all id := by
 induction l with
 | nil => rfl
 | cons a l ih => rw [List.any_cons, List.all_cons, Bool.not_or, ih]; cases a <;> rfl
def zL (d : List qP) (t : List qA) : List Int × Bool :=
 if 1 <= t.length /\ t.length <= 400 then (match jG d t [] (List.replicate t.length false) with
  | some r => (r.1, (r.2.take (t.length - 1)).all id)
  | none => ([], false)) else ([], false)
theorem qA5 {d : List qP} {t : List qA} (h : (zL d t).2 = true) : WOk (zL d t).1 /\ (zL d t).1.length = t.length /\ 1 <= t.length /\ t.length <= 400 := by
 unfold zL at h ⊢
 by_cases hl : 1 <= t.length /\ t.length <= 400
 ·rw [if_pos hl] at h ⊢
  cases hg : jG d t [] (List.replicate t.length false) with
  | none => rw [hg] at h; cases h
  | some r =>
   rw [hg] at h
   obtain ⟨h1, h2, h3⟩ := wT (fun w hw => by cases hw) hg
   exact ⟨h1, by simpa using h2, hl⟩
 ·rw [if_neg hl] at h; cases h
theorem qHX {d : List qP} {t : List qA} (hd : d.length <= 1099511627776) (R : Nat -> List Int -> Bool -> Prop) :
  Ev (fun n => Z20.c n d t (R n)) ↔ Ev (fun n => R n (zL d t).1 (zL d t).2) := by
 refine Ev.suc.trans ?_
 simp only [Z20.c, Z20.w, Ev.iteI, decide_eq_true_eq, decide_eq_false_iff_not, Ev.s2 R, zL]
 by_cases hl : 1 <= t.length /\ t.length <= 400
 ·rw [if_pos (by omega), if_neg (by omega), if_pos hl]
  have lp := fun (Kx : Nat -> Int -> List Int -> List Bool -> Prop) (Kr : Nat -> Bool -> List Int -> Prop) => qEf hd hl.2 t [] (List.replicate t.length 0) (List.replicate t.length false) rfl (by simp) (by simp) (fun w hw => by cases hw) Kx Kr
  simp only [List.length_nil, List.nil_append, Int.natCast_zero] at lp
  simp (disch := omega) only [Z20.j1, Z20.j0, qC, decide_true, Bool.and_true, and_self, Int.toNat_natCast]
  rw [lp]
  cases hg : jG d t [] (List.replicate t.length false) with
  | none => exact Ev.s2 R _ _
  | some r =>
   obtain ⟨h1, h2, h3⟩ := wT (fun w hw => by cases hw) hg
   rw [List.length_replicate] at h3
   simp (disch := omega) only [qM, qGV]
   rw [qNq (by simp; omega), Ev.s2 R]
   rw [qJq, List.drop_zero, show ((t.length : Int) - 1).toNat = t.length - 1 from by omega]
 ·rw [if_neg hl]
  split
  ·rw [if_pos (by omega)]
  ·rfl
def qAa (d : List qP) (t : List qA) : Int := if (zL d t).2 = true then rd (zL d t).1 (t.length - 1) else -1
theorem qHZ {d : List qP} {t : List qA} (hd : d.length <= 1099511627776) (R : Nat -> Int -> Prop) :
  Ev (fun n => Z19.c n d t (R n)) ↔ Ev (fun n => R n (qAa d t)) := by
 refine Ev.suc.trans ?_
 simp only [Z19.c, Z19.w, qHX hd, Ev.iteI, Bool.not_eq_true', Ev.s1 R, qAa]
 by_cases h : (zL d t).2 = true
 ·obtain ⟨h1, h2, h3, h4⟩ := qA5 h
  rw [if_pos h, if_neg (by simp [h])]
  simp (disch := omega) only [qM, qC, Ev.s1 R]
  rw [show (((zL d t).1.length : Int) - 1).toNat = t.length - 1 from by omega]
 ·rw [if_neg h, if_pos (by simpa using h)]
def yA (d : List qP) (t : List qA) : Int := if wJ d = true then qAa d t else -1
theorem qHk {d : List qP} {t : List qA} (hd : d.length <= 1099511627776) (R : Nat -> Int -> Prop) :
  Ev (fun n => Z6.c n d t (R n)) ↔ Ev (fun n => R n (yA d t)) := by
 refine Ev.suc.trans ?_
 simp only [Z6.c, Z6.w, qHF, Ev.iteI, Bool.not_eq_true', qHZ hd, Ev.s1 R, yA]
 by_cases h : wJ d = true
 ·rw [if_pos h, if_neg (by simp [h])]
 ·rw [if_neg h, if_pos (by simpa using h)]
theorem qGj {d : List qP} {wide : List Int} {a b c e f : Int} {w ks : List Int} (hl : ks.length <= 1099511627776) (hw : WOk wide) : ∀ (ys : List Int) (s x : Int), ks.drop x.toNat = ys -> 0 <= x -> 0 <= s -> s <= 8192 -> jK wide.length ys = true ->
  ∀ (Kx : Nat -> List qP -> Int -> Int -> Int -> Int -> Int -> Int -> List Int -> List Int -> Prop),
  (Ev (fun n => Z76.l3 n d wide a b c e f w ks s x (Kx n)) ↔ Ev (fun n => Kx n d (vO s (ys.map fun k => rd wide k.toNat)) a b c e f w ks))
 | [], s, x, h, h0, hs, hs', hk, Kx => by
  have := qO h h0
  refine Ev.suc.trans ?_
  simp (disch := omega) only [Z76.l3, Z76.l3.b, if_neg, decide_eq_true_eq, Ev.s9 Kx, List.map_nil, vO]
 | y :: ys, s, x, h, h0, hs, hs', hk, Kx => by
  obtain ⟨e1, e2, e3⟩ := qE h h0
  rw [zP] at hk
  have hy := hw _ (qIm hk.1.1 (show y < (wide.length : Int) by omega))
  refine Ev.suc.trans ?_
  simp (disch := omega) only [Z76.l3, Z76.l3.b, if_pos, decide_eq_true_eq, qC, e2, qM]
  rw [qGj hl hw ys _ (x + 1) e3 (by omega) (by split <;> omega) (by split <;> omega) hk.2, Ev.s9 Kx, List.map_cons, vO]
theorem qJP {d : List qP} {wide : List Int} {a b c e f : Int} {w ks : List Int} (hd : d.length <= 1099511627776) (hl : ks.length <= 1099511627776) (hw : WOk wide) (hk : jK wide.length ks = true) (hkb : kI d (a, b, c, e, f, w, ks) = true) (R : Nat -> Int -> Prop) :
  Ev (fun n => Z76.c n d a b c e f w ks wide (R n)) ↔ Ev (fun n => R n (qA7 d (a, b, c, e, f, w, ks) (vO 0 (ks.map fun k => rd wide k.toNat)))) := by
 refine Ev.suc.trans ?_
 simp only [Z76.c, Z76.w]
 rw [qGj hl hw ks 0 0 rfl (by omega) (by omega) (by omega) hk]
 have hs : 0 <= vO 0 (ks.map fun k => rd wide k.toNat) /\ vO 0 (ks.map fun k => rd wide k.toNat) <= 8192 := by
  have hwk := qBV hw hk
  have := qGq hwk
  rw [qAT (by omega) (by omega) hwk]
  split <;> omega
 generalize vO 0 (ks.map fun k => rd wide k.toNat) = s at hs
 rw [kI, decide_eq_true_eq] at hkb
 simp only [] at hkb
 simp only [Z76.j2, Z76.j3, Ev.iteI, decide_eq_true_eq, decide_eq_false_iff_not, Bool.not_eq_true', qAl, Ev.s1 R, if_true]
 rw [qA7]
 simp only []
 by_cases h1 : a = 1
 ·rw [if_pos h1, if_pos h1]
  simp (disch := omega) only [qC, Ev.s1 R]
 rw [if_neg h1, if_neg h1]
 by_cases h2 : a = 2
 ·rw [if_pos h2, if_pos h2]
 rw [if_neg h2, if_neg h2]
 by_cases h4 : a = 4
 ·rw [if_pos h4, if_pos h4]
  by_cases g1 : e < 0
  ·rw [if_neg (by omega), if_pos (Or.inl g1)]
  rw [if_pos g1]
  by_cases g2 : c < e
  ·rw [if_neg (by omega), if_pos (Or.inr (Or.inl g2))]
  rw [if_pos g2]
  by_cases g3 : c >= s
  ·rw [if_pos g3, if_pos (Or.inr (Or.inr g3))]
  rw [if_neg g3, if_neg (by omega), qM (x := c - e) (by omega) (by omega), qM (by omega) (by omega)]
 rw [if_neg h4, if_neg h4]
 have hm : 1 <= c /\ c <= 4096 -> IntKind.wrap .i64 (s * c) = s * c := fun h => by
  have := qPw hs.1 hs.2 (show 0 <= c by omega) h.2
  exact qM (by omega) (by omega)
 have hp : 0 <= c /\ c <= 4096 -> IntKind.wrap .i64 (s + c) = s + c := fun h => qM (by omega) (by omega)
 have key56 : (if ¬ (0 <= c /\ c <= 4096) then Ev fun n => R n (-1) else Ev fun n => R n (IntKind.wrap .i64 (s + c))) ↔ Ev fun n => R n (if 0 <= c /\ c <= 4096 then s + c else -1) := by
  by_cases g : 0 <= c /\ c <= 4096
  ·rw [if_neg (fun h => h g), if_pos g, hp g]
  ·rw [if_pos g, if_neg g]
 have key78 : (if ¬ (0 <= c /\ c <= 4096) then Ev fun n => R n (-1) else Ev fun n => R n s) ↔ Ev fun n => R n (if 0 <= c /\ c <= 4096 then s else -1) := by
  by_cases g : 0 <= c /\ c <= 4096
  ·rw [if_neg (fun h => h g), if_pos g]
  ·rw [if_pos g, if_neg g]
 have key9 : (if ¬ (1 <= c /\ c <= 4096) then Ev fun n => R n (-1) else Ev fun n => R n (IntKind.wrap .i64 (s * c))) ↔ Ev fun n => R n (if 1 <= c /\ c <= 4096 then s * c else -1) := by
  by_cases g : 1 <= c /\ c <= 4096
  ·rw [if_neg (fun h => h g), if_pos g, hm g]
  ·rw [if_pos g, if_neg g]
 by_cases h5 : a = 5
 ·rw [if_pos h5, if_pos (Or.inl h5)]; exact key56
 rw [if_neg h5]
 by_cases h6 : a = 6
 ·rw [if_pos h6, if_pos (Or.inr h6)]; exact key56
 rw [if_neg h6, if_neg (show ¬ (a = 5 \/ a = 6) by omega)]
 by_cases h7 : a = 7
 ·rw [if_pos h7, if_pos (Or.inl h7)]; exact key78
 rw [if_neg h7]
 by_cases h8 : a = 8
 ·rw [if_pos h8, if_pos (Or.inr h8)]; exact key78
 rw [if_neg h8, if_neg (show ¬ (a = 7 \/ a = 8) by omega)]
 by_cases h9 : a = 9
 ·rw [if_pos h9, if_pos h9]; exact key9
 rw [if_neg h9, if_neg h9]
theorem qGk {d : List qP} {i : Int} {o wide : List Int} {t : List qA} {x : qA} (hi0 : 0 <= i) (hi : i < (t.length : Int)) (hx : rd t i.toNat = x) (hl : x.2.2.2.2.2.2.length <= 1099511627776) : ∀ (ys : List Int) (j : Int) (used : List Bool), x.2.2.2.2.2.2.drop j.toNat = ys -> 0 <= j -> used.length = t.length -> jK i ys = true ->
  ∀ (Kx : Nat -> List qP -> Int -> List Int -> List Bool -> List Int -> List qA -> Prop),
  (Ev (fun n => Z77.l16 n d i o wide t j used (Kx n)) ↔ Ev (fun n => Kx n d i o (vA used ys) wide t))
 | [], j, used, h, h0, hu, hk, Kx => by
  have := qO h h0
  refine Ev.suc.trans ?_
  simp (disch := omega) only [Z77.l16, Z77.l16.b, qC, hx, if_neg, decide_eq_true_eq, Ev.s6 Kx, vA]
 | y :: ys, j, used, h, h0, hu, hk, Kx => by
  obtain ⟨e1, e2, e3⟩ := qE h h0
  rw [zP] at hk
  refine Ev.suc.trans ?_
  simp (disch := omega) only [Z77.l16, Z77.l16.b, qC, hx, if_pos, decide_eq_true_eq, e2, qM]
  rw [qGk hi0 hi hx hl ys (j + 1) _ e3 (by omega) (by simpa using hu) hk.2, Ev.s6 Kx, vA]
theorem qCW {d : List qP} {t : List qA} (hd : d.length <= 1099511627776) (ht : t.length <= 400) (hg : ∀ x : qA, x ∈ t -> Wd x.2.2.2.2.2.1 /\ x.2.2.2.2.2.2.length <= 1099511627776) : ∀ (ys : List qA) (wide : List Int) (used : List Bool), t.drop wide.length = ys -> (∀ x : qA, x ∈ ys -> Wd x.2.2.2.2.2.1 /\ x.2.2.2.2.2.2.length <= 1099511627776) -> used.length = t.length -> WOk wide ->
  ∀ (Kx : Nat -> List Int -> List Int -> List Bool -> Prop) (Kr : Nat -> List Int -> Prop),
  (Ev (fun n => Z77.l7 n d wide.length wide [] used t (Kx n) (Kr n)) ↔ match jG d ys wide used with
   | some r => Ev (fun n => Kx n r.1 [] r.2)
   | none => Ev (fun n => Kr n []))
 | [], wide, used, h, hy, hu, hw, Kx, Kr => by
  have hle := List.drop_eq_nil_iff.1 h
  refine Ev.suc.trans ?_
  simp (disch := omega) only [Z77.l7, Z77.l7.b, if_neg, decide_eq_true_eq, Ev.s3 Kx, jG]
 | x :: ys, wide, used, h, hy, hu, hw, Kx, Kr => by
  have h' : t.drop (wide.length : Int).toNat = x :: ys := h
  obtain ⟨e1, e2, e3⟩ := qE h' (by omega)
  have e2' : rd t wide.length = x := e2
  have hx := hy x List.mem_cons_self
  refine Ev.suc.trans ?_
  simp (disch := first | exact hx.1 | exact hx.2 | omega) only [Z77.l7, Z77.l7.b, if_pos, decide_eq_true_eq, Ev.iteI, qC, Int.toNat_natCast, e2', Ev.s1 Kr, qLP, Bool.not_eq_true']
  rw [jG]
  by_cases hf : jK wide.length x.2.2.2.2.2.2 = true /\ vN x = true /\ kI d x = true
  ·obtain ⟨f1, f2, f3⟩ := hf
   have e : (jK (wide.length : Int) x.2.2.2.2.2.2 && vN (x.1, x.2.1, x.2.2.1, x.2.2.2.1, x.2.2.2.2.1, x.2.2.2.2.2.1, x.2.2.2.2.2.2) && kI d (x.1, x.2.1, x.2.2.1, x.2.2.2.1, x.2.2.2.2.1, x.2.2.2.2.2.1, x.2.2.2.2.2.2)) = true := by
    rw [f1, show vN (x.1, x.2.1, x.2.2.1, x.2.2.2.1, x.2.2.2.2.1, x.2.2.2.2.2.1, x.2.2.2.2.2.2) = true from f2, show kI d (x.1, x.2.1, x.2.2.1, x.2.2.2.1, x.2.2.2.2.1, x.2.2.2.2.2.1, x.2.2.2.2.2.2) = true from f3]; rfl
   rw [e, if_neg (by decide)]
   have hwi := fun (R : Nat -> Int -> Prop) => qJP (wide := wide) hd hx.2 hw f1 f3 R
   simp (disch := omega) only [hwi, qAl, Ev.iteI, Bool.not_eq_true', decide_eq_false_iff_not, Ev.s1 Kr, zG]
   have hst : kH d x wide = acc (qA7 d x (vO 0 (x.2.2.2.2.2.2.map fun k => rd wide k.toNat))) := by
    rw [kH, if_pos ⟨f1, f2, f3⟩]
   rw [hst]
   generalize hv : qA7 d x (vO 0 (x.2.2.2.2.2.2.map fun k => rd wide k.toNat)) = v
   by_cases hacc : 1 <= v /\ v <= 4096
   ·rw [if_neg (fun h => h hacc), acc, if_pos hacc]
    simp only []
    simp (disch := (simp only [List.length_cons, List.length_nil]; omega)) only [zG]
    rw [qGk (by omega) e1 e2 hx.2 _ 0 used rfl (by omega) hu f1]
    have el : IntKind.wrap .i64 ((wide.length : Int) + 1) = ((wide ++ [v]).length : Int) := by
     rw [qM (by omega) (by omega)]; simp
    rw [el, qCW hd ht hg ys (wide ++ [v]) _ (by rw [<- e3, List.length_append]; rfl) (fun x hx' => hy x (List.mem_cons_of_mem _ hx')) (by rw [vQ]; exact hu) (hw.app hacc)]
    simp only [Int.toNat_zero, List.drop_zero]
    cases jG d ys (wide ++ [v]) (vA used x.2.2.2.2.2.2) with
    | none => exact Ev.s1 Kr _
    | some r => exact Ev.s3 Kx _ _ _
   ·rw [if_pos hacc, acc, if_neg hacc]
  ·have e : (jK (wide.length : Int) x.2.2.2.2.2.2 && vN (x.1, x.2.1, x.2.2.1, x.2.2.2.1, x.2.2.2.2.1, x.2.2.2.2.2.1, x.2.2.2.2.2.2) && kI d (x.1, x.2.1, x.2.2.1, x.2.2.2.1, x.2.2.2.2.1, x.2.2.2.2.2.1, x.2.2.2.2.2.2)) = false := by
    rw [Bool.eq_false_iff]
    intro h
    rw [Bool.and_eq_true, Bool.and_eq_true] at h
    exact hf ⟨h.1.1, h.1.2, h.2⟩
   rw [if_pos e, kH, if_neg hf]
theorem qJr {wide : List Int} {used : List Bool} (hl : used.length <= 1048576) (h1 : 1 <= used.length) : ∀ (m : Nat) (i : Int), i + m = (used.length : Int) - 1 -> 0 <= i -> ∀ (Kx Kr : Nat -> List Int -> Prop),
  (Ev (fun n => Z77.l20 n wide [] used i (Kx n) (Kr n)) ↔ if ((used.take (used.length - 1)).drop i.toNat).all id = true then Ev (fun n => Kx n wide) else Ev (fun n => Kr n []))
 | 0, i, h, h0, Kx, Kr => by
  refine Ev.suc.trans ?_
  simp (disch := omega) only [Z77.l20, Z77.l20.b, qM, if_neg, decide_eq_true_eq, Ev.s1 Kx]
  rw [List.drop_eq_nil_of_le (by simp; omega)]
  simp
 | m + 1, i, h, h0, Kx, Kr => by
  refine Ev.suc.trans ?_
  have hk : i.toNat < (used.take (used.length - 1)).length := by simp; omega
  have e : (used.take (used.length - 1)).drop i.toNat = rd used i.toNat :: (used.take (used.length - 1)).drop (i + 1).toNat := by
   rw [List.drop_eq_getElem_cons hk, show (i + 1).toNat = i.toNat + 1 from by omega]
   congr 1
   rw [List.getElem_take, rd, List.getD_eq_getElem?_getD, List.getElem?_eq_getElem (by omega)]; rfl
  simp (disch := omega) only [Z77.l20, Z77.l20.b, qM, if_pos, decide_eq_true_eq, qC, Ev.iteI, Bool.not_eq_true', Ev.s1 Kr, e]
  rw [qJr hl h1 m (i + 1) (by omega) (by omega), Ev.s1 Kx, Ev.s1 Kr, List.all_cons, id]
  cases rd used i.toNat <;> simp
theorem qHj {d : List qP} {t : List qA} (hd : d.length <= 1099511627776) (hg : ∀ x : qA, x ∈ t -> Wd x.2.2.2.2.2.1 /\ x.2.2.2.2.2.2.length <= 1099511627776) (R : Nat -> List Int -> Prop) :
  Ev (fun n => Z77.c n d t (R n)) ↔ Ev (fun n => R n (if wJ d = true /\ (zL d t).2 = true then (zL d t).1 else [])) := by
 refine Ev.suc.trans ?_
 simp only [Z77.c, Z77.w, qFV, Ev.iteI, decide_eq_true_eq, decide_eq_false_iff_not, Bool.not_eq_false', Ev.s1 R, zL]
 by_cases h : wJ d = true
 ·rw [if_pos h]
  by_cases hl : 1 <= t.length /\ t.length <= 400
  ·rw [if_pos (by omega), if_neg (by omega)]
   simp only [if_pos hl]
   have lp := fun (Kx : Nat -> List Int -> List Int -> List Bool -> Prop) (Kr : Nat -> List Int -> Prop) => qCW hd hl.2 hg t [] (List.replicate t.length false) rfl hg (by simp) (fun w hw => by cases hw) Kx Kr
   simp only [List.length_nil] at lp
   simp only [Int.natCast_zero] at lp
   simp (disch := omega) only [Z77.j0, qC, decide_true, Bool.and_true, Int.toNat_natCast]
   rw [lp]
   cases hg' : jG d t [] (List.replicate t.length false) with
   | none => simp only [h, Bool.false_eq_true, and_false, if_false]; exact Ev.s1 R _
   | some r =>
    obtain ⟨h1, h2, h3⟩ := wT (fun w hw => by cases hw) hg'
    rw [List.length_replicate] at h3
    simp only [h, true_and]
    rw [qJr (by omega) (by omega) (t.length - 1) 0 (by omega) (by omega), Ev.s1 R, Ev.s1 R, h3]
    simp only [Int.toNat_zero, List.drop_zero]
    split <;> rfl
  ·simp only [if_neg hl, Bool.false_eq_true, and_false, if_false]
   split
   ·rw [if_pos (by omega)]
   ·rfl
 ·rw [if_neg h]
  simp only [h, false_and, if_false]
  rw [if_neg (by simp)]
theorem qFw {d : List qP} {t : List qA} (hd : d.length <= 1099511627776) (hg : ∀ x : qA, x ∈ t -> Wd x.2.2.2.2.2.1 /\ x.2.2.2.2.2.2.length <= 1099511627776) (R : Nat -> Int -> Prop) :
  Ev (fun n => Z64.c n d t (R n)) ↔ Ev (fun n => R n (yA d t)) := by
 refine Ev.suc.trans ?_
 simp only [Z64.c, Z64.w, qHj hd hg, Ev.iteI, decide_eq_true_eq, Ev.s1 R, yA, qAa]
 by_cases h : wJ d = true
 ·by_cases h2 : (zL d t).2 = true
  ·obtain ⟨h3, h4, h5, h6⟩ := qA5 h2
   simp only [h, h2, and_self, if_true]
   rw [if_neg (by omega)]
   simp (disch := omega) only [qM, qC, Ev.s1 R]
   rw [show (((zL d t).1.length : Int) - 1).toNat = t.length - 1 from by omega]
  ·simp only [h, h2, and_false, if_false, List.length_nil, if_true]
   simp
 ·simp only [h, false_and, if_false, List.length_nil]
  simp
def vB : Nat -> List qA -> Prop
 | _, [] => True
 | i, x :: r => jK i x.2.2.2.2.2.2 = true /\ vB (i + 1) r
theorem qAw {d : List qP} : ∀ {ys : List qA} {wide : List Int} {used : List Bool} {r : List Int × List Bool}, jG d ys wide used = some r -> vB wide.length ys
 | [], wide, used, r, h => trivial
 | x :: ys, wide, used, r, h => by
  rw [jG] at h
  cases hs : kH d x wide with
  | none => rw [hs] at h; cases h
  | some w =>
   rw [hs] at h
   have ih := qAw h
   rw [List.length_append] at ih
   refine ⟨?_, ih⟩
   unfold kH at hs
   split at hs
   ·rename_i hh; exact hh.1
   ·cases hs
theorem qAx {d : List qP} {t : List qA} (h : ¬ qAa d t < 0) : (zL d t).2 = true /\ 1 <= t.length /\ t.length <= 400 /\ vB 0 t := by
 unfold qAa at h
 by_cases h2 : (zL d t).2 = true
 ·obtain ⟨h3, h4, h5, h6⟩ := qA5 h2
  refine ⟨h2, h5, h6, ?_⟩
  unfold zL at h2
  rw [if_pos ⟨h5, h6⟩] at h2
  cases hg : jG d t [] (List.replicate t.length false) with
  | none => rw [hg] at h2; cases h2
  | some r => exact qAw hg
 ·rw [if_neg h2] at h; omega
theorem qCX {d : List qP} {t : List qA} (h : ¬ yA d t < 0) : wJ d = true /\ ¬ qAa d t < 0 := by
 unfold yA at h
 split at h
 ·exact ⟨‹_›, h⟩
 ·omega
def LOk (l : List Int) : Prop := ∀ w ∈ l, 0 <= w /\ w <= 1000000
theorem LOk.app {acc : List Int} {w : Int} (h : LOk acc) (hw : 0 <= w /\ w <= 1000000) : LOk (acc ++ [w]) := by
 intro v hv
 rcases List.mem_append.1 hv with hv | hv
 ·exact h v hv
 ·rw [List.mem_singleton] at hv; subst hv; exact hw
theorem qGz {α : Type} [Inhabited α] {a z : List α} {v : α} : rd (a ++ v :: z) a.length = v := by
 rw [rd, List.getD_eq_getElem?_getD, List.getElem?_append_right (Nat.le_refl _), Nat.sub_self]; rfl
theorem qFh {w : Int} {ws : List Nat} (hw : Below 18446744073709551616 ws) : zF w (W ws) = true ↔ Ok w ws := by
 rw [qG3 hw]
 exact ⟨fun ⟨a, b, c, d⟩ => ⟨a, b, c, hw, d⟩, fun h => ⟨h.lo, h.hi, h.len, h.top⟩⟩
theorem kY {w : Int} {l : List Int} (hw : Wd l) (h : zF w l = true) : ∃ ws, l = W ws /\ Ok w ws := by
 obtain ⟨ws, rfl, hB⟩ := hw.of
 exact ⟨ws, rfl, (qFh hB).1 h⟩
theorem Ok.bits {w : Int} {ws : List Nat} (h : Ok w ws) : zF w (W ws) = true := (qFh h.words).2 h
theorem qMv {x k : Nat} (hx : x < 18446744073709551616) : x >>> k < 18446744073709551616 := by
 rw [Nat.shiftRight_eq_div_pow]; exact Nat.lt_of_le_of_lt (Nat.div_le_self _ _) hx
def qPy : List UInt8 := [48, 49, 50, 51, 52, 53, 54, 55, 56, 57, 97, 98, 99, 100, 101, 102]
def qMM (v : Nat) : Int := ((List.getD qPy v 0).toNat : Int)
def dig (ws : List Nat) (e at_ : Nat) : Nat := (ws.getD (at_ / 64) 0 >>> (at_ % 64)) % 2 ^ e
def dgs (ws : List Nat) (e : Nat) : Nat -> List Int
 | 0 => []
 | k + 1 => qMM (dig ws e (e * k)) :: dgs ws e k
theorem qCx {ws : List Nat} {e : Nat} : ∀ k, (dgs ws e k).length = k
 | 0 => rfl
 | k + 1 => by rw [dgs, List.length_cons, qCx k]
def qMp (w : Nat) (ws : List Nat) : List Int := if w % 4 = 0 then [35, 120] ++ dgs ws 4 (w / 4) else [35, 98] ++ dgs ws 1 w
def wN (l : List Int) : List Nat := l.map Int.toNat
theorem qPt (ws : List Nat) : wN (W ws) = ws := by
 unfold wN W
 rw [List.map_map]
 exact List.map_id' _
def wtx (b : Int) (l : List Int) : List UInt8 := if zF b l = true then qV (qMp b.toNat (wN l)) else []
theorem xI (l : List Int) : (qV l).length = l.length := by simp [qV]
theorem qLm (b : Int) (l : List Int) : (wtx b l).length <= 4098 := by
 rw [wtx]
 split
 ·rename_i h
  rw [zF] at h
  have hb : b <= 4096 := by
   simp only [Bool.and_eq_true, decide_eq_true_eq] at h
   omega
  rw [xI, qMp]
  split
  ·rw [List.length_append, qCx]; simp; omega
  ·rw [List.length_append, qCx]; simp; omega
 ·simp
theorem qB3 {ws : List Nat} (hw : Below 18446744073709551616 ws) (hl : ws.length <= 64) {e : Nat} (he : e = 1 \/ e = 4) {x25 : Int} : ∀ (k : Nat) (o : List Int), e * k <= 64 * ws.length -> o.length + k <= 8192 -> ∀ Kx : Nat -> List Int -> Prop,
  (Ev (fun n => Z7.l8 n e x25 (W ws) ((e * k : Nat) - (e : Int)) o (Kx n)) ↔ Ev (fun n => Kx n (o ++ dgs ws e k)))
 | 0, o, h1, h2, Kx => by
  refine Ev.suc.trans ?_
  simp only [Z7.l8, Z7.l8.b]
  rw [Ev.iteI, if_neg (by simp; omega), dgs, List.append_nil, Ev.s1 Kx]
 | k + 1, o, h1, h2, Kx => by
  have ek : ((e * (k + 1) : Nat) : Int) - (e : Int) = ((e * k : Nat) : Int) := by rw [Nat.mul_add, Nat.mul_one]; omega
  rw [Nat.mul_add, Nat.mul_one] at h1
  have hk : e * k <= 4096 := by omega
  have e1 : IntKind.wrap .i64 (Int.tdiv ((e * k : Nat) : Int) 64) = ((e * k / 64 : Nat) : Int) := by rw [qH2 (by omega), qM (by omega) (by omega)]; omega
  have e2 : Int.tmod ((e * k : Nat) : Int) 64 = ((e * k % 64 : Nat) : Int) := by rw [qH1 (by omega)]; omega
  have hx : ws.getD (e * k / 64) 0 < 18446744073709551616 := hw.getD (by decide) _
  have es := qMw (ws.getD (e * k / 64) 0) (e * k % 64) (by omega)
  have hx2 : ws.getD (e * k / 64) 0 >>> (e * k % 64) < 18446744073709551616 := qMv hx
  have e3 : IntKind.wrap .u64 ((IntKind.wrap .u64 (1 * 2 ^ (Nat.min (Int.toNat (e : Int)) 64))) - 1) = ((2 ^ e - 1 : Nat) : Int) := by
   rcases he with rfl | rfl <;> decide
  have ea : qFP .and .u64 ((ws.getD (e * k / 64) 0 >>> (e * k % 64) : Nat) : Int) ((2 ^ e - 1 : Nat) : Int) = ((dig ws e (e * k) : Nat) : Int) := by
   rw [qM1 hx2 (by rcases he with rfl | rfl <;> decide), dig]
   congr 1
   exact Nat.and_two_pow_sub_one_eq_mod _ _
  have hd : dig ws e (e * k) < 16 := by
   have : dig ws e (e * k) < 2 ^ e := Nat.mod_lt _ (Nat.pow_pos (by decide))
   rcases he with rfl | rfl <;> omega
  have e5 : IntKind.wrap .i64 (((e * k : Nat) : Int) - (e : Int)) = ((e * k : Nat) : Int) - (e : Int) := qM (by omega) (by omega)
  have ih := qB3 hw hl he (x25 := x25) k (o ++ [qMM (dig ws e (e * k))]) (by omega) (by simp; omega) (fun n => Kx (n + 1))
  refine Ev.suc.trans ?_
  rw [ek]
  simp only [Z7.l8, Z7.l8.b, e1, e2, Int.toNat_natCast, qPm, qHM, es, e5]
  rw [Ev.iteI, if_pos (decide_eq_true (Int.natCast_nonneg _))]
  simp (disch := omega) only [qC, zG]
  rw [show IntKind.wrap .u64 (1 * 2 ^ (Nat.min e 64)) - 1 = IntKind.wrap .u64 (1 * 2 ^ (Nat.min (Int.toNat (e : Int)) 64)) - 1 from by rw [Int.toNat_natCast], e3, ea]
  simp only [Int.toNat_natCast]
  have g1 : (0 : Int) <= (dig ws e (e * k) : Int) /\ (dig ws e (e * k) : Int) < ((([48, 49, 50, 51, 52, 53, 54, 55, 56, 57, 97, 98, 99, 100, 101, 102] : List UInt8).length : Nat) : Int) := ⟨by omega, by simp; omega⟩
  simp only [qC g1]
  have g2 : o.length + ([((List.getD ([48, 49, 50, 51, 52, 53, 54, 55, 56, 57, 97, 98, 99, 100, 101, 102] : List UInt8) (dig ws e (e * k)) 0).toNat : Int)] : List Int).length <= 35184372088832 := by simp; omega
  simp only [zG g2]
  refine ih.trans ?_
  rw [Ev.s1 Kx, dgs, List.append_assoc]; rfl
theorem qHT {b : Int} {l : List Int} (hl : Wd l) (R : Nat -> List UInt8 -> Prop) : Ev (fun n => Z7.c n b l (R n)) ↔ Ev (fun n => R n (wtx b l)) := by
 refine Ev.suc.trans ?_
 simp only [Z7.c, Z7.w, qEV, Ev.iteI]
 by_cases h : zF b l = true
 ·obtain ⟨ws, rfl, ho⟩ := kY hl h
  have h1 := ho.lo
  have h2 := ho.hi
  have h3 := ho.len
  obtain ⟨w, rfl⟩ : ∃ w : Nat, b = (w : Int) := ⟨b.toNat, by omega⟩
  rw [if_neg (by rw [h]; decide), wtx, if_pos h, qPt, Int.toNat_natCast, qMp, qH1 (by omega)]
  by_cases hm : w % 4 = 0
  ·have lp := qB3 ho.words (by omega) (.inr rfl) (x25 := (w : Int)) (w / 4) [35, 120] (by omega) (by simp; omega) (fun n y => R (n + 1) (qV y))
   rw [if_pos (by simp; omega), if_pos hm]
   rw [show IntKind.wrap .i64 ((w : Int) - 4) = ((4 * (w / 4) : Nat) : Int) - ((4 : Nat) : Int) from by rw [qM (by omega) (by omega)]; omega]
   exact lp.trans (Ev.s1 R _)
  ·have lp := qB3 ho.words (by omega) (.inl rfl) (x25 := (w : Int)) w [35, 98] (by omega) (by simp; omega) (fun n y => R (n + 1) (qV y))
   rw [if_neg (by simp; omega), if_neg hm]
   rw [show IntKind.wrap .i64 ((w : Int) - 1) = ((1 * w : Nat) : Int) - ((1 : Nat) : Int) from by rw [qM (by omega) (by omega)]; omega]
   exact lp.trans (Ev.s1 R _)
 ·rw [if_pos (by simpa using h), wtx, if_neg h, Ev.s1 R]
theorem qBW (a : Nat) : Go.Lib.itoa (a : Int) = Go.Lib.decDigits a := by
 rw [Go.Lib.itoa, if_neg (by omega), Int.toNat_natCast]
theorem qJb : ∀ (f a : Nat), a <= f -> (Go.Lib.decDigits a).length <= a + 1
 | 0, a, h => by
  rw [Go.Lib.decDigits, dif_pos (by omega)]; simp
 | f + 1, a, h => by
  rw [Go.Lib.decDigits]
  by_cases h10 : a < 10
  ·rw [dif_pos h10]; simp
  ·rw [dif_neg h10, List.length_append]
   have := qJb f (a / 10) (by omega)
   simp; omega
theorem qAN {a : Int} (h0 : 0 <= a) (h1 : a <= 1000000) : (Go.Lib.itoa a).length <= 1000001 := by
 obtain ⟨k, rfl⟩ : ∃ k : Nat, a = (k : Int) := ⟨a.toNat, by omega⟩
 rw [qBW]
 have := qJb k k (Nat.le_refl _)
 omega
theorem qKO {a : Int} (h0 : 0 <= a) (h1 : a <= 1000000) (R : Nat -> List UInt8 -> Prop) : Ev (fun n => Z78.c n a 10 (R n)) ↔ Ev (fun n => R n (Go.Lib.itoa a)) := by
 refine Ev.suc.trans ?_
 simp only [Z78.c, Z78.w]
 rw [show (decide (-9223372036854775808 <= a) && decide (a <= 9223372036854775807)) = true from by simp; omega]
 exact Ev.s1 R _
def qOW (n : Nat) : Int := if 48 <= n /\ n <= 57 then (n : Int) - 48 else if 97 <= n /\ n <= 102 then (n : Int) - 87 else -1
def qKy (e : Nat) (c : UInt8) : Bool := decide (0 <= qOW c.toNat /\ qOW c.toNat < ((2 ^ e : Nat) : Int))
def dv (t : List UInt8) (i : Nat) : Nat := (qOW (List.getD t (t.length - 1 - i) 0).toNat).toNat
def qPa (t : List UInt8) (e b : Nat) : Bool := (dv t (b / e)).testBit (b % e)
def rdW (e : Nat) (t : List UInt8) : List Nat := pk (e * t.length) (qPa t e)
def eOf (s : List UInt8) : Nat := if ((List.getD s 1 0).toNat : Int) = 120 then 4 else 1
def qO9 (s : List UInt8) : Bool := decide (3 <= s.length /\ ((List.getD s 0 0).toNat : Int) = 35 /\ (((List.getD s 1 0).toNat : Int) = 98 \/ ((List.getD s 1 0).toNat : Int) = 120))
def okT (s : List UInt8) : Bool := qO9 s && decide (eOf s * (s.length - 2) <= 4096) && (s.drop 2).all (qKy (eOf s))
def qKd (v : Nat) : UInt8 := List.getD qPy v 0
theorem qIT : ∀ v : Nat, v < 16 -> qOW (qKd v).toNat = (v : Int) /\ (qKd v).toNat < 128 := by decide
theorem qKN (v : Nat) : UInt8.ofNat (qMM v).toNat = qKd v := by
 show UInt8.ofNat (((qKd v).toNat : Int)).toNat = qKd v
 rw [Int.toNat_natCast, UInt8.ofNat_toNat]
theorem qKT {ws : List Nat} {e p : Nat} : dig ws e p < 2 ^ e := Nat.mod_lt _ (Nat.pow_pos (by decide))
theorem qI9 {ws : List Nat} {e : Nat} : ∀ (k j : Nat), j < k -> List.getD (qV (dgs ws e k)) (k - 1 - j) 0 = qKd (dig ws e (e * j))
 | 0, j, h => by omega
 | k + 1, j, h => by
  rw [dgs]
  show List.getD (UInt8.ofNat (qMM (dig ws e (e * k))).toNat :: qV (dgs ws e k)) _ 0 = _
  by_cases hj : j = k
  ·subst hj
   rw [show j + 1 - 1 - j = 0 from by omega, List.getD_cons_zero, qKN]
  ·rw [show k + 1 - 1 - j = (k - 1 - j) + 1 from by omega, List.getD_cons_succ]
   exact qI9 k j (by omega)
theorem qDU {ws : List Nat} {e : Nat} {c : UInt8} : ∀ k, c ∈ qV (dgs ws e k) -> ∃ v, v < 2 ^ e /\ c = qKd v
 | 0, h => by cases h
 | k + 1, h => by
  rw [dgs] at h
  rcases List.mem_cons.1 (show c ∈ UInt8.ofNat (qMM (dig ws e (e * k))).toNat :: qV (dgs ws e k) from h) with h | h
  ·exact ⟨_, qKT, by rw [h, qKN]⟩
  ·exact qDU k h
theorem qLW {ws : List Nat} {e : Nat} (he : e = 1 \/ e = 4) {k b : Nat} (hb : b < e * k) : qPa (qV (dgs ws e k)) e b = bit ws b := by
 have hj : b / e < k := by rcases he with rfl | rfl <;> omega
 have hl : (qV (dgs ws e k)).length = k := by rw [xI, qCx]
 have h16 : dig ws e (e * (b / e)) < 16 := by
  have := qKT (ws := ws) (e := e) (p := e * (b / e))
  rcases he with rfl | rfl <;> omega
 unfold qPa dv
 rw [hl, qI9 k _ hj, (qIT _ h16).1, Int.toNat_natCast, dig, Nat.testBit_mod_two_pow, Nat.testBit_shiftRight, bit]
 have h1 : b % e < e := by rcases he with rfl | rfl <;> omega
 have h2 : e * (b / e) / 64 = b / 64 := by rcases he with rfl | rfl <;> omega
 have h3 : e * (b / e) % 64 + b % e = b % 64 := by rcases he with rfl | rfl <;> omega
 rw [decide_eq_true h1, Bool.true_and, h2, h3]
theorem qMo {ws : List Nat} {e k : Nat} {a : UInt8} (ha : a.toNat < 128) (he : e = 1 \/ e = 4) (hk : 1 <= k) (h4 : e * k <= 4096) (hae : a.toNat = if e = 4 then 120 else 98) (ho : Ok ((e * k : Nat) : Int) ws) {s : List UInt8} (es : s = 35 :: a :: qV (dgs ws e k)) :
  (∀ c ∈ s, c.toNat < 128) /\ okT s = true /\ eOf s * (s.length - 2) = e * k /\ W (rdW (eOf s) (s.drop 2)) = W ws := by
 have hl : (qV (dgs ws e k)).length = k := by rw [xI, qCx]
 have hle : 2 ^ e <= 16 := by rcases he with rfl | rfl <;> decide
 have hn : s.length = k + 2 := by rw [es, List.length_cons, List.length_cons, hl]
 have hd : s.drop 2 = qV (dgs ws e k) := by rw [es]; rfl
 have h0 : List.getD s 0 0 = 35 := by rw [es]; rfl
 have h1 : List.getD s 1 0 = a := by rw [es]; rfl
 have ee : eOf s = e := by
  unfold eOf
  rw [h1, hae]
  rcases he with rfl | rfl <;> rfl
 have hee : ((a.toNat : Nat) : Int) = 98 \/ ((a.toNat : Nat) : Int) = 120 := by
  rw [hae]; rcases he with rfl | rfl <;> simp
 refine ⟨fun c hc => ?_, ?_, ?_, ?_⟩
 ·rw [es] at hc
  rcases List.mem_cons.1 hc with rfl | hc
  ·decide
  ·rcases List.mem_cons.1 hc with rfl | hc
   ·exact ha
   ·obtain ⟨v, hv, rfl⟩ := qDU k hc
    exact (qIT v (by omega)).2
 ·unfold okT qO9
  rw [ee, hd, h0, h1, hn, Bool.and_eq_true, Bool.and_eq_true, decide_eq_true_eq, decide_eq_true_eq, List.all_eq_true]
  refine ⟨⟨⟨by omega, by decide, hee⟩, by rw [Nat.add_sub_cancel]; exact h4⟩, fun c hc => ?_⟩
  obtain ⟨v, hv, rfl⟩ := qDU k hc
  have := (qIT v (by omega)).1
  unfold qKy
  rw [this]
  exact decide_eq_true ⟨by omega, by omega⟩
 ·rw [ee, hn, Nat.add_sub_cancel]
 ·rw [ee, hd, rdW, hl]
  congr 1
  exact (qO7 ho fun b hb => (qLW he hb).symm).symm
theorem qHR {w : Nat} {ws : List Nat} (ho : Ok (w : Int) ws) {s : List UInt8} (es : s = wtx w (W ws)) :
  (∀ c ∈ s, c.toNat < 128) /\ okT s = true /\ eOf s * (s.length - 2) = w /\ W (rdW (eOf s) (s.drop 2)) = W ws := by
 have h1 := ho.lo
 have h2 := ho.hi
 rw [wtx, if_pos ho.bits, Int.toNat_natCast, qPt, qMp] at es
 by_cases h4 : w % 4 = 0
 ·rw [if_pos h4] at es
  have ew : 4 * (w / 4) = w := by omega
  have := qMo (a := 120) (by decide) (.inr rfl) (k := w / 4) (by omega) (by omega) rfl (by rw [ew]; exact ho) es
  rw [ew] at this; exact this
 ·rw [if_neg h4] at es
  have ew : 1 * w = w := by omega
  have := qMo (a := 98) (by decide) (.inl rfl) (k := w) (by omega) (by omega) rfl (by rw [ew]; exact ho) es
  rw [ew] at this; exact this
def qPp (d : List qP) (x : qA) (m : Int) : Prop :=
 (jK m x.2.2.2.2.2.2 = true /\ x.2.2.2.2.2.2.length <= 4096) /\ ((x.1 = 1 /\ x.2.2.2.2.2.2.length = 0 /\ 0 <= x.2.1 /\ x.2.1 <= (d.length : Int) - 1) \/ (x.1 = 2 /\ x.2.2.2.2.2.2.length = 0) \/
  ((3 <= x.1 /\ x.1 <= 9) /\ (x.1 ≠ 3 -> 0 <= x.2.2.1 /\ x.2.2.1 <= 8192) /\ (x.1 = 4 -> 0 <= x.2.2.2.1 /\ x.2.2.2.1 <= 8192)))
theorem qJi {l : List Int} (h : WOk l) : vO 0 l <= 8192 := by
 rw [qAT (by omega) (by omega) h]
 split <;> omega
theorem qLu {d : List qP} {x : qA} {wide : List Int} {w : Int} (hw : WOk wide) (h : kH d x wide = some w) : qPp d x wide.length := by
 have h' := h
 unfold kH at h
 split at h
 ·rename_i hc
  have hk := qBV hw hc.1
  have e := qH6 (d := d) (x := x) hk (by simp)
  have hcap := qJi hk
  rw [if_pos hc.2.2, h] at e
  obtain ⟨a1, a2, a3⟩ := qHa h
  rw [<- a1] at a2 a3
  split at e
  ·rename_i hl
   have hkb := hc.2.2
   rw [kI, decide_eq_true_eq] at hkb
   refine ⟨⟨hc.1, hl⟩, ?_⟩
   rcases hkb with ⟨h1, h2, h3, h4⟩ | ⟨h1, h2, h3⟩ | ⟨h1, h2⟩ | ⟨h1, h2, h3⟩
   ·exact .inl ⟨h1, h2, h3, h4⟩
   ·exact .inr (.inl ⟨h1, h2⟩)
   ·exact .inr (.inr ⟨by omega, fun hn => absurd h1 hn, fun h4 => by omega⟩)
   ·refine .inr (.inr ⟨by omega, ?_⟩)
    unfold qA7 at a1
    rw [if_neg (by omega), if_neg (by omega)] at a1
    by_cases c4 : x.1 = 4
    ·rw [if_pos c4] at a1
     split at a1
     ·omega
     ·rename_i hn
      simp only [not_or] at hn
      exact ⟨fun _ => by omega, fun _ => by omega⟩
    ·rw [if_neg c4] at a1
     refine ⟨fun _ => ?_, fun h => absurd h c4⟩
     by_cases c5 : x.1 = 5 \/ x.1 = 6
     ·rw [if_pos c5] at a1
      split at a1 <;> omega
     ·rw [if_neg c5] at a1
      by_cases c7 : x.1 = 7 \/ x.1 = 8
      ·rw [if_pos c7] at a1
       split at a1 <;> omega
      ·rw [if_neg c7, if_pos (by omega)] at a1
       split at a1 <;> omega
  ·cases e
 ·cases h
def qAm : List Int -> List UInt8
 | [] => []
 | k :: r => 44 :: (Go.Lib.itoa k ++ qAm r)
def qPx (x : qA) : List UInt8 :=
 (((((((Go.Lib.itoa x.1 ++ [47]) ++ Go.Lib.itoa x.2.1) ++ [47]) ++ Go.Lib.itoa x.2.2.1) ++ [47]) ++ Go.Lib.itoa x.2.2.2.1) ++ [47]) ++ wtx x.2.2.2.2.1 x.2.2.2.2.2.1
def qKL (x : qA) : List UInt8 := qPx x ++ qAm x.2.2.2.2.2.2
def Sm (a : Int) : Prop := 0 <= a /\ a <= 1000000
structure kJ (x : qA) : Prop where
 op : Sm x.1
 v : Sm x.2.1
 a : Sm x.2.2.1
 b : Sm x.2.2.2.1
 w : Wd x.2.2.2.2.2.1
 k : ∀ k ∈ x.2.2.2.2.2.2, Sm k
 kl : x.2.2.2.2.2.2.length <= 4096
 ok : zF x.2.2.2.2.1 x.2.2.2.2.2.1 = true \/ (x.2.2.2.2.1 = 0 /\ x.2.2.2.2.2.1 = [])
theorem qGN {ks : List Int} (hl : ks.length <= 4096) : ∀ (ys : List Int) (x : Int) (b : List UInt8), ks.drop x.toNat = ys -> 0 <= x -> (∀ k ∈ ys, Sm k) -> b.length + ys.length * 1000002 <= 900000000000000 -> ∀ Kx : Nat -> List UInt8 -> Prop,
  (Ev (fun n => Z3.l3 n ks ks.length b x (Kx n)) ↔ Ev (fun n => Kx n (b ++ qAm ys)))
 | [], x, b, h, h0, hy, hb, Kx => by
  have := qO h h0
  refine Ev.suc.trans ?_
  simp only [Z3.l3, Z3.l3.b]
  rw [Ev.iteI, if_neg (by simp; omega), Ev.s1 Kx, qAm, List.append_nil]
 | y :: ys, x, b, h, h0, hy, hb, Kx => by
  obtain ⟨e1, e2, e3⟩ := qE h h0
  obtain ⟨y0, y1⟩ := hy y List.mem_cons_self
  have hil := qAN y0 y1
  have ih := qGN hl ys (x + 1) (b ++ ([44] ++ Go.Lib.itoa y)) e3 (by omega) (fun k hk => hy k (List.mem_cons_of_mem _ hk)) (by simp only [List.length_append, List.length_cons, List.length_nil] at hb ⊢; omega) (fun n => Kx (n + 1))
  refine Ev.suc.trans ?_
  simp only [Z3.l3, Z3.l3.b, e2]
  have g1 : (([44] : List UInt8).length + (Go.Lib.itoa y).length) <= 9223372036854775807 := by simp only [List.length_cons, List.length_nil]; omega
  have g2 : b.length + (([44] : List UInt8) ++ Go.Lib.itoa y).length <= 9223372036854775807 := by simp only [List.length_append, List.length_cons, List.length_nil] at hb ⊢; omega
  rw [Ev.iteI, if_pos (by simpa using e1), qM (x := x + 1) (by omega) (by omega)]
  simp only [qC (And.intro h0 e1)]
  rw [qKO y0 y1 (fun n c => grd (decide (([44] : List UInt8).length + c.length <= 9223372036854775807)) (grd (decide (b.length + (([44] : List UInt8) ++ c).length <= 9223372036854775807)) (Z3.l3 n ks ks.length (b ++ (([44] : List UInt8) ++ c)) (x + 1) (Kx (n + 1)))))]
  simp only [zG g1, zG g2]
  rw [ih, Ev.s1 Kx]
  simp only [qAm, List.append_assoc, List.cons_append, List.nil_append]
theorem qMI {x : qA} (h : kJ x) (R : Nat -> List UInt8 -> Prop) : Ev (fun n => Z3.c n x (R n)) ↔ Ev (fun n => R n (qKL x)) := by
 obtain ⟨⟨o0, o1⟩, ⟨v0, v1⟩, ⟨a0, a1⟩, ⟨b0, b1⟩, hw, hk, hkl, hok⟩ := h
 have i1 := qAN o0 o1
 have i2 := qAN v0 v1
 have i3 := qAN a0 a1
 have i4 := qAN b0 b1
 have i5 := qLm x.2.2.2.2.1 x.2.2.2.2.2.1
 have q : ∀ (b : List UInt8) (Kx : Nat -> List UInt8 -> Prop), b.length <= 100000000 -> (Ev (fun n => Z3.l3 n x.2.2.2.2.2.2 x.2.2.2.2.2.2.length b 0 (Kx n)) ↔ Ev (fun n => Kx n (b ++ qAm x.2.2.2.2.2.2))) := fun b Kx hb =>
  qGN hkl x.2.2.2.2.2.2 0 b rfl (by omega) hk (by omega) Kx
 refine Ev.suc.trans ?_
 simp only [Z3.c, Z3.w]
 simp (disch := first | assumption | omega | (simp only [List.length_append, List.length_cons, List.length_nil]; omega)) only [qKO, zG, qHT, q]
 rw [Ev.s1 R]
 rfl
theorem qC8 {a b : Nat} (ha : a < 256) (hb : b < 256) (h : UInt8.ofNat a = UInt8.ofNat b) : a = b := by
 have := congrArg UInt8.toNat h
 simpa [UInt8.toNat_ofNat', Nat.mod_eq_of_lt ha, Nat.mod_eq_of_lt hb] using this
theorem qKU (a : Nat) : Go.Lib.decDigits a ≠ [] := by
 rw [Go.Lib.decDigits]
 split <;> simp
theorem qLX : ∀ (a b : Nat), Go.Lib.decDigits a = Go.Lib.decDigits b -> a = b := by
 intro a
 induction a using Nat.strongRecOn with
 | _ a ih =>
  intro b h
  rw [Go.Lib.decDigits.eq_def a, Go.Lib.decDigits.eq_def b] at h
  split at h
  ·split at h
   ·simp only [List.cons.injEq, and_true] at h
    have := qC8 (by omega) (by omega) h
    omega
   ·have := congrArg List.length h
    have h2 := qKU (b / 10)
    have h3 : 0 < (Go.Lib.decDigits (b / 10)).length := List.length_pos_iff.2 h2
    simp only [List.length_append, List.length_cons, List.length_nil] at this; omega
  ·split at h
   ·have := congrArg List.length h
    have h2 := qKU (a / 10)
    have h3 : 0 < (Go.Lib.decDigits (a / 10)).length := List.length_pos_iff.2 h2
    simp only [List.length_append, List.length_cons, List.length_nil] at this; omega
   ·obtain ⟨h1, h2⟩ := List.append_inj' h rfl
    simp only [List.cons.injEq, and_true] at h2
    have e1 := ih (a / 10) (by omega) (b / 10) h1
    have e2 := qC8 (by omega) (by omega) h2
    omega
theorem qJc : ∀ (a : Nat), ∀ c ∈ Go.Lib.decDigits a, 48 <= c.toNat /\ c.toNat <= 57 := by
 intro a
 induction a using Nat.strongRecOn with
 | _ a ih =>
  intro c hc
  rw [Go.Lib.decDigits] at hc
  split at hc
  ·simp only [List.mem_singleton] at hc
   subst hc
   rw [UInt8.toNat_ofNat', Nat.mod_eq_of_lt (by omega)]; omega
  ·rcases List.mem_append.1 hc with hc | hc
   ·exact ih (a / 10) (by omega) c hc
   ·simp only [List.mem_singleton] at hc
    subst hc
    rw [UInt8.toNat_ofNat', Nat.mod_eq_of_lt (by omega)]; omega
theorem qAO {a b : Int} (ha : Sm a) (hb : Sm b) (h : Go.Lib.itoa a = Go.Lib.itoa b) : a = b := by
 obtain ⟨k, rfl⟩ : ∃ k : Nat, a = (k : Int) := ⟨a.toNat, by have := ha.1; omega⟩
 obtain ⟨m, rfl⟩ : ∃ k : Nat, b = (k : Int) := ⟨b.toNat, by have := hb.1; omega⟩
 rw [qBW, qBW] at h
 rw [qLX _ _ h]
theorem qDL {a : Int} (ha : Sm a) {c : UInt8} (hc : c.toNat < 48) : c ∉ Go.Lib.itoa a := by
 obtain ⟨k, rfl⟩ : ∃ k : Nat, a = (k : Int) := ⟨a.toNat, by have := ha.1; omega⟩
 rw [qBW]
 intro h
 have := qJc k c h
 omega
theorem qDm {α : Type} {c : α} : ∀ {l1 l2 r1 r2 : List α}, c ∉ l1 -> c ∉ l2 -> l1 ++ c :: r1 = l2 ++ c :: r2 -> l1 = l2 /\ r1 = r2
 | [], [], r1, r2, _, _, h => by simpa using h
 | [], y :: l2, r1, r2, _, h2, h => by
  simp only [List.nil_append, List.cons_append, List.cons.injEq] at h
  exact absurd (by rw [h.1]; exact List.mem_cons_self) h2
 | x :: l1, [], r1, r2, h1, _, h => by
  simp only [List.nil_append, List.cons_append, List.cons.injEq] at h
  exact absurd (by rw [<- h.1]; exact List.mem_cons_self) h1
 | x :: l1, y :: l2, r1, r2, h1, h2, h => by
  simp only [List.cons_append, List.cons.injEq] at h
  obtain ⟨rfl, h⟩ := h
  obtain ⟨rfl, e⟩ := qDm (fun hh => h1 (List.mem_cons_of_mem _ hh)) (fun hh => h2 (List.mem_cons_of_mem _ hh)) h
  exact ⟨rfl, e⟩
theorem qGO (l : List Int) : qAm l = [] \/ ∃ r, qAm l = 44 :: r := by
 cases l with
 | nil => exact .inl rfl
 | cons k r => exact .inr ⟨_, rfl⟩
theorem qGZ {l1 l2 : List UInt8} {a b : List Int} (h1 : (44 : UInt8) ∉ l1) (h2 : (44 : UInt8) ∉ l2) (h : l1 ++ qAm a = l2 ++ qAm b) : l1 = l2 /\ qAm a = qAm b := by
 rcases qGO a with ea | ⟨ra, ea⟩ <;> rcases qGO b with eb | ⟨rb, eb⟩ <;> rw [ea, eb] at h ⊢
 ·rw [List.append_nil, List.append_nil] at h; exact ⟨h, rfl⟩
 ·rw [List.append_nil] at h
  exact absurd (by rw [h]; simp) h1
 ·rw [List.append_nil] at h
  exact absurd (by rw [<- h]; simp) h2
 ·obtain ⟨e1, e2⟩ := qDm h1 h2 h
  exact ⟨e1, by rw [e2]⟩
theorem qES : ∀ {a b : List Int}, (∀ k ∈ a, Sm k) -> (∀ k ∈ b, Sm k) -> qAm a = qAm b -> a = b
 | [], [], _, _, _ => rfl
 | [], _ :: _, _, _, h => by cases h
 | _ :: _, [], _, _, h => by cases h
 | x :: a, y :: b, ha, hb, h => by
  simp only [qAm, List.cons.injEq, true_and] at h
  have hx := ha x List.mem_cons_self
  have hy := hb y List.mem_cons_self
  obtain ⟨e1, e2⟩ := qGZ (qDL hx (by decide)) (qDL hy (by decide)) h
  rw [qAO hx hy e1, qES (fun k hk => ha k (List.mem_cons_of_mem _ hk)) (fun k hk => hb k (List.mem_cons_of_mem _ hk)) e2]
theorem qHS {b : Int} {l : List Int} {c : UInt8} (hc : c = 44 \/ c = 47) : c ∉ wtx b l := by
 have hx : ∀ v : Nat, v < 16 -> qKd v ≠ 44 /\ qKd v ≠ 47 := by decide
 have hd : ∀ {ws : List Nat} {e k : Nat}, (e = 1 \/ e = 4) -> c ∉ qV (dgs ws e k) := fun {ws e k} he h => by
  obtain ⟨v, hv, rfl⟩ := qDU k h
  have hv : v < 16 := by rcases he with rfl | rfl <;> omega
  rcases hc with hc | hc
  ·exact (hx v hv).1 hc
  ·exact (hx v hv).2 hc
 unfold wtx qMp
 split
 ·split
  ·intro h
   have e : qV ([35, 120] ++ dgs (wN l) 4 (b.toNat / 4)) = 35 :: 120 :: qV (dgs (wN l) 4 (b.toNat / 4)) := rfl
   rw [e] at h
   rcases List.mem_cons.1 h with h | h
   ·subst h; rcases hc with hc | hc <;> exact absurd hc (by decide)
   ·rcases List.mem_cons.1 h with h | h
    ·subst h; rcases hc with hc | hc <;> exact absurd hc (by decide)
    ·exact hd (.inr rfl) h
  ·intro h
   have e : qV ([35, 98] ++ dgs (wN l) 1 b.toNat) = 35 :: 98 :: qV (dgs (wN l) 1 b.toNat) := rfl
   rw [e] at h
   rcases List.mem_cons.1 h with h | h
   ·subst h; rcases hc with hc | hc <;> exact absurd hc (by decide)
   ·rcases List.mem_cons.1 h with h | h
    ·subst h; rcases hc with hc | hc <;> exact absurd hc (by decide)
    ·exact hd (.inl rfl) h
 ·intro h; cases h
theorem qGh {w : Nat} {ws : List Nat} (ho : Ok (w : Int) ws) : 3 <= (wtx w (W ws)).length := by
 have := (qHR ho rfl).2.1
 unfold okT qO9 at this
 rw [Bool.and_eq_true, Bool.and_eq_true, decide_eq_true_eq] at this
 exact this.1.1.1
theorem qMZ : zF 0 [] = false := by decide
theorem qLn {a b : Int} {l m : List Int} (hl : Wd l) (hm : Wd m) (h1 : zF a l = true \/ (a = 0 /\ l = [])) (h2 : zF b m = true \/ (b = 0 /\ m = [])) (h : wtx a l = wtx b m) : a = b /\ l = m := by
 rcases h1 with h1 | ⟨rfl, rfl⟩ <;> rcases h2 with h2 | ⟨rfl, rfl⟩
 ·obtain ⟨ws, rfl, ho⟩ := kY hl h1
  obtain ⟨vs, rfl, hp⟩ := kY hm h2
  have q1 := ho.lo
  have q2 := hp.lo
  obtain ⟨w, rfl⟩ : ∃ w : Nat, a = (w : Int) := ⟨a.toNat, by omega⟩
  obtain ⟨v, rfl⟩ : ∃ w : Nat, b = (w : Int) := ⟨b.toNat, by omega⟩
  obtain ⟨_, _, r1, r2⟩ := qHR ho rfl
  obtain ⟨_, _, s1, s2⟩ := qHR hp rfl
  rw [h] at r1 r2
  exact ⟨by rw [<- r1, s1], by rw [<- r2, s2]⟩
 ·obtain ⟨ws, rfl, ho⟩ := kY hl h1
  have q1 := ho.lo
  obtain ⟨w, rfl⟩ : ∃ w : Nat, a = (w : Int) := ⟨a.toNat, by omega⟩
  have := qGh ho
  rw [h, wtx, if_neg (by rw [qMZ]; decide)] at this
  simp at this
 ·obtain ⟨ws, rfl, ho⟩ := kY hm h2
  have q1 := ho.lo
  obtain ⟨w, rfl⟩ : ∃ w : Nat, b = (w : Int) := ⟨b.toNat, by omega⟩
  have := qGh ho
  rw [<- h, wtx, if_neg (by rw [qMZ]; decide)] at this
  simp at this
 ·exact ⟨rfl, rfl⟩
theorem qKb {x y : qA} (hx : kJ x) (hy : kJ y) (h : qKL x = qKL y) : x = y := by
 obtain ⟨a1, a2, a3, a4, a5, a6, a7⟩ := x
 obtain ⟨b1, b2, b3, b4, b5, b6, b7⟩ := y
 have n47 : ∀ {a : Int}, Sm a -> (47 : UInt8) ∉ Go.Lib.itoa a := fun ha => qDL ha (by decide)
 simp only [qKL, qPx, List.append_assoc, List.singleton_append] at h
 obtain ⟨e1, h⟩ := qDm (n47 hx.op) (n47 hy.op) h
 obtain ⟨e2, h⟩ := qDm (n47 hx.v) (n47 hy.v) h
 obtain ⟨e3, h⟩ := qDm (n47 hx.a) (n47 hy.a) h
 obtain ⟨e4, h⟩ := qDm (n47 hx.b) (n47 hy.b) h
 obtain ⟨e5, e6⟩ := qGZ (qHS (.inl rfl)) (qHS (.inl rfl)) h
 obtain ⟨e7, e8⟩ := qLn hx.w hy.w hx.ok hy.ok e5
 have k1 := qAO hx.op hy.op e1
 have k2 := qAO hx.v hy.v e2
 have k3 := qAO hx.a hy.a e3
 have k4 := qAO hx.b hy.b e4
 have k5 := qES hx.k hy.k e6
 simp only at k1 k2 k3 k4 k5 e7 e8
 rw [k1, k2, k3, k4, k5, e7, e8]
def kZ (to : List Int) (x : qA) : qA := (x.1, x.2.1, x.2.2.1, x.2.2.2.1, x.2.2.2.2.1, x.2.2.2.2.2.1, x.2.2.2.2.2.2.map fun k => rd to k.toNat)
def ixA (x : qA) (a : List qA) : Int := qS (fun y => decide (y = x)) a 0
def yN (x : qA) (a : List qA) : Int × List qA := if ixA x a < 0 then ((a.length : Int), a ++ [x]) else (ixA x a, a)
def qX : List qA -> List Int -> List qA -> List Int × List qA
 | [], to, a => (to, a)
 | x :: r, to, a => qX r (to ++ [(yN (kZ to x) a).1]) (yN (kZ to x) a).2
def zV : List qA -> Int -> List qP
 | [], _ => []
 | x :: r, i => (qKL x, i) :: zV r (i + 1)
theorem qDd : ∀ {a b : List qA} {i : Int}, zV (a ++ b) i = zV a i ++ zV b (i + a.length)
 | [], b, i => by simp [zV]
 | x :: a, b, i => by
  rw [List.cons_append, zV, zV, qDd, List.cons_append, List.length_cons]
  congr 3; omega
theorem qGR {x : qA} (hx : kJ x) : ∀ {a : List qA} {i : Int}, 0 <= i -> (∀ y ∈ a, kJ y) -> qEJ (zV a i) (qKL x) = if qS (fun y => decide (y = x)) a i < 0 then none else some (qS (fun y => decide (y = x)) a i)
 | [], i, _, _ => rfl
 | y :: a, i, h0, ha => by
  by_cases he : y = x
  ·have e : qS (fun z => decide (z = x)) (y :: a) i = i := by simp [qS, he]
   rw [zV, qEJ, if_pos (by rw [he]), e, if_neg (by omega)]
  ·have hk : qKL y ≠ qKL x := fun h => he (qKb (ha y List.mem_cons_self) hx h)
   have e : qS (fun z => decide (z = x)) (y :: a) i = qS (fun z => decide (z = x)) a (i + 1) := by simp [qS, he]
   rw [zV, qEJ, if_neg (by simpa using hk), e]
   exact qGR hx (by omega) fun z hz => ha z (List.mem_cons_of_mem _ hz)
theorem qGE {α β : Type} [DecidableEq α] {k : α} {v : β} : ∀ {l : List (α × β)}, qEJ l k = none -> qHu l k v = l ++ [(k, v)]
 | [], _ => rfl
 | x :: l, h => by
  rw [qEJ] at h
  by_cases hx : x.1 = k
  ·rw [if_pos hx] at h; cases h
  ·rw [if_neg hx] at h
   rw [qHu, if_neg hx, qGE h, List.cons_append]
theorem qF0 {l : List Int} (hl : l.length <= 1099511627776) (R : Nat -> List Int -> Prop) :
  Ev (fun n => Z56.c n l (R n)) ↔ Ev (fun n => R n l) := by
 refine Ev.suc.trans ?_
 simp (disch := (simp only [List.length_nil]; omega)) only [Z56.c, Z56.w, Ev.andI, Ev.impI, zG, List.nil_append, Ev.s1 R]
 exact ⟨fun h => h.2, fun h => ⟨fun h0 => by rw [List.eq_nil_of_length_eq_zero h0] at h; exact h, h⟩⟩
theorem qFZ {l : List Int} (hl : l.length <= 1099511627776) (R : Nat -> List Int -> Prop) :
  Ev (fun n => Z57.c n l (R n)) ↔ Ev (fun n => R n l) := by
 refine Ev.suc.trans ?_
 simp (disch := (simp only [List.length_nil]; omega)) only [Z57.c, Z57.w, Ev.andI, Ev.impI, zG, List.nil_append, Ev.s1 R]
 exact ⟨fun h => h.2, fun h => ⟨fun h0 => by rw [List.eq_nil_of_length_eq_zero h0] at h; exact h, h⟩⟩
theorem qFc {a b c d e : Int} {w k : List Int} (hw : w.length <= 1099511627776) (hk : k.length <= 1099511627776) (R : Nat -> Int -> Int -> Int -> Int -> Int -> List Int -> List Int -> Prop) :
  Ev (fun n => Z12.c n a b c d e w k (R n)) ↔ Ev (fun n => R n a b c d e w k) := by
 refine Ev.suc.trans ?_
 simp only [Z12.c, Z12.w]
 have h1 : ∀ S : Nat -> Int -> List Int -> Prop, (Ev (fun n => Z11.c n e w (S n)) ↔ Ev (fun n => S n e w)) := fun S => by
  refine Ev.suc.trans ?_
  simp only [Z11.c, Z11.w]
  rw [qFZ hw (fun n l => S (n + 1) e l), Ev.s2 S]
 rw [h1 (fun n h i => Z56.c n k (R (n + 1) a b c d h i)), qF0 hk (fun n i => R (n + 1) a b c d e w i), Ev.s7 R]
theorem qM2 {a : List qA} {x : qA} (ha : ∀ y ∈ a, kJ y) (hx : kJ x) (hw : x.2.2.2.2.2.1.length <= 1099511627776) (hl : a.length <= 1000000) (R : Nat -> Int -> List qA -> List qP -> Prop) :
  Ev (fun n => Z8.c n a (zV a 0) x.1 x.2.1 x.2.2.1 x.2.2.2.1 x.2.2.2.2.1 x.2.2.2.2.2.1 x.2.2.2.2.2.2 (R n)) ↔ Ev (fun n => R n (yN x a).1 (yN x a).2 (zV (yN x a).2 0)) := by
 have hk : x.2.2.2.2.2.2.length <= 1099511627776 := Nat.le_trans hx.kl (by decide)
 refine Ev.suc.trans ?_
 simp only [Z8.c, Z8.w]
 have hg := qGR hx (i := 0) (by omega) ha
 have ke := qMI hx
 have g : ∀ y : qA, a.length + ([y] : List qA).length <= 790660046940 := fun y => by simp only [List.length_cons, List.length_nil]; omega
 simp (disch := assumption) only [ke, qFc, Ev.iteI, Ev.andI, zG (g _), and_self]
 rw [hg]
 unfold yN
 rw [show qS (fun y => decide (y = x)) a 0 = ixA x a from rfl] at hg ⊢
 by_cases hi : ixA x a < 0
 ·rw [if_pos hi] at hg ⊢
  rw [if_pos hi, qGE hg, Ev.s3 R]
  simp [qDd, zV]
 ·rw [if_neg hi] at hg ⊢
  rw [if_neg hi]
  simp
  exact Ev.s3 R _ _ _
def yE (v inst : Int) : List qA -> List Int -> List qA -> List Int × List qA
 | [], to, a => (to, a)
 | x :: r, to, a => if x.1 = 1 /\ x.2.1 = v then yE v inst r (to ++ [inst]) a else yE v inst r (to ++ [(yN (kZ to x) a).1]) (yN (kZ to x) a).2
theorem qC6 {v inst : Int} : ∀ {ys : List qA} {to : List Int} {a : List qA}, (∀ y ∈ ys, ¬ (y.1 = 1 /\ y.2.1 = v)) -> yE v inst ys to a = qX ys to a
 | [], _, _, _ => rfl
 | x :: ys, to, a, h => by
  rw [yE, if_neg (h x List.mem_cons_self), qX, qC6 fun y hy => h y (List.mem_cons_of_mem _ hy)]
theorem qKM {x : qA} : ∀ {a : List qA} {i : Int}, 0 <= i -> qS (fun y => decide (y = x)) a i < 0 \/ (i <= qS (fun y => decide (y = x)) a i /\ qS (fun y => decide (y = x)) a i < i + a.length)
 | [], i, h => .inl (by simp [qS])
 | y :: a, i, h => by
  rw [qS, List.length_cons]
  split
  ·exact .inr ⟨by omega, by omega⟩
  ·rcases qKM (x := x) (a := a) (i := i + 1) (by omega) with h1 | ⟨h1, h2⟩
   ·exact .inl h1
   ·exact .inr ⟨by omega, by omega⟩
theorem qD5 {x : qA} {a : List qA} : 0 <= (yN x a).1 /\ (yN x a).1 < ((yN x a).2.length : Int) /\ a.length <= (yN x a).2.length /\ (yN x a).2.length <= a.length + 1 := by
 unfold yN
 split
 ·simp; omega
 ·rename_i h
  rcases qKM (x := x) (a := a) (i := 0) (by omega) with h1 | ⟨h1, h2⟩
  ·exact absurd h1 h
  ·simp only; exact ⟨h1, by unfold ixA; omega, by omega, by omega⟩
theorem qG9 {x y : qA} {a : List qA} (h : y ∈ (yN x a).2) : y ∈ a \/ y = x := by
 unfold yN at h
 split at h
 ·simpa using h
 ·exact .inl h
theorem qKK {to : List Int} {x : qA} (hx : kJ x) (hk : jK to.length x.2.2.2.2.2.2 = true) (ht : ∀ k ∈ to, Sm k) : kJ (kZ to x) :=
 ⟨hx.op, hx.v, hx.a, hx.b, hx.w, fun k hk' => by
  obtain ⟨j, hj, rfl⟩ := List.mem_map.1 hk'
  unfold jK at hk
  rw [List.all_eq_true] at hk
  have := of_decide_eq_true (hk j hj)
  exact ht _ (qIm this.1 (by omega)), by show (List.map _ _).length <= 4096; rw [List.length_map]; exact hx.kl, hx.ok⟩
theorem qGQ {e f g : Int} {h : List qA} {i j : Int} {ks c : List Int} {l : List qA} {m : List qP} {o p q r s : Int} {t u : List Int} (hl : ks.length <= 4096) : ∀ (ys : List Int) (x : Int) (done rest : List Int), ks.drop x.toNat = ys -> x = done.length -> rest.length = ys.length -> jK c.length ys = true ->
  ∀ Kx : Nat -> Int -> Int -> Int -> List qA -> Int -> Int -> List Int -> List Int -> List qA -> List qP -> Int -> Int -> Int -> Int -> Int -> List Int -> List Int -> Prop,
  (Ev (fun n => Z9.l9 n e f g h i j ks ks.length c l m o p q r s t u x (done ++ rest) (Kx n)) ↔ Ev (fun n => Kx n e f g h i j c (done ++ ys.map fun k => rd c k.toNat) l m o p q r s t u))
 | [], x, done, rest, h1, hx, hr, hk, Kx => by
  have := qO h1 (by omega)
  have hr0 : rest = [] := List.eq_nil_of_length_eq_zero (by simpa using hr)
  subst hr0
  refine Ev.suc.trans ?_
  simp (disch := omega) only [Z9.l9, Z9.l9.b, if_neg, decide_eq_true_eq, List.map_nil]
  exact Ev.s0 fun n => Kx n e f g h i j c (done ++ []) l m o p q r s t u
 | y :: ys, x, done, rest, h1, hx, hr, hk, Kx => by
  obtain ⟨e1, e2, e3⟩ := qE h1 (by omega)
  rw [zP] at hk
  match rest, hr with
  | z :: rest, hr =>
   have hr' : rest.length = ys.length := by simpa using hr
   have es : ∀ w : Int, (done ++ z :: rest).set x.toNat w = (done ++ [w]) ++ rest := fun w => by
    rw [hx, Int.toNat_natCast, List.set_append_right _ _ (Nat.le_refl _), Nat.sub_self, List.set_cons_zero]; simp
   have el : (done ++ z :: rest).length = done.length + (rest.length + 1) := by simp
   refine Ev.suc.trans ?_
   simp (disch := omega) only [Z9.l9, Z9.l9.b, if_pos, decide_eq_true_eq, qC, e2, qM, el, es]
   rw [qGQ hl ys (x + 1) (done ++ [rd c y.toNat]) rest e3 (by simp; omega) hr' hk.2 (fun n => Kx (n + 1))]
   rw [List.append_assoc, List.singleton_append, List.map_cons]
   exact Ev.s0 fun n => Kx n e f g h i j c (done ++ rd c y.toNat :: ys.map fun k => rd c k.toNat) l m o p q r s t u
theorem qKF {v inst : Int} {t : List qA} (hi : Sm inst) (ht : t.length <= 1000000) : ∀ (ys : List qA) (to z : List Int) (a : List qA), t.drop to.length = ys -> to.length + z.length = t.length -> (∀ y ∈ ys, kJ y /\ y.2.2.2.2.2.1.length <= 1099511627776) -> vB to.length ys ->
  (∀ y ∈ a, kJ y) -> (∀ k ∈ to, Sm k) -> a.length + ys.length <= 1000000 -> ∀ Kx : Nat -> List Int -> List qA -> List qP -> Prop,
  (Ev (fun n => Z9.l3 n v inst t t.length to.length (to ++ z) a (zV a 0) (Kx n)) ↔ Ev (fun n => Kx n (yE v inst ys to a).1 (yE v inst ys to a).2 (zV (yE v inst ys to a).2 0)))
 | [], to, z, a, h, hz, hy, hk, ha, hto, hal, Kx => by
  have hle := List.drop_eq_nil_iff.1 h
  have hz0 : z = [] := List.eq_nil_of_length_eq_zero (by omega)
  subst hz0
  refine Ev.suc.trans ?_
  simp (disch := omega) only [Z9.l3, Z9.l3.b, if_neg, decide_eq_true_eq, yE, List.append_nil]
  exact Ev.s3 Kx _ _ _
 | x :: ys, to, z, a, h, hz, hy, hk, ha, hto, hal, Kx => by
  have h' : t.drop (to.length : Int).toNat = x :: ys := h
  obtain ⟨e1, e2, e3⟩ := qE h' (by omega)
  have e2' : rd t to.length = x := e2
  obtain ⟨hx, hxw⟩ := hy x List.mem_cons_self
  rw [List.length_cons] at hal
  match z, hz with
  | [], hz => simp at hz; omega
  | z0 :: z, hz =>
   rw [List.length_cons] at hz
   have el : (to ++ z0 :: z).length = to.length + (z.length + 1) := by simp
   have es : ∀ u : Int, (to ++ z0 :: z).set to.length u = (to ++ [u]) ++ z := fun u => by
    rw [List.set_append_right _ _ (Nat.le_refl _), Nat.sub_self, List.set_cons_zero]; simp
   have ew : IntKind.wrap .i64 ((to.length : Int) + 1) = ((to.length + 1 : Nat) : Int) := by rw [qM (by omega) (by omega)]; simp
   have nxt : ∀ (u : Int) (a' : List qA), Sm u -> (∀ y ∈ a', kJ y) -> a'.length <= a.length + 1 -> ∀ Kx : Nat -> List Int -> List qA -> List qP -> Prop, ((Ev fun n => Z9.l3 n v inst t t.length (IntKind.wrap .i64 ((to.length : Int) + 1)) ((to ++ [u]) ++ z) a' (zV a' 0) (Kx n)) ↔
     Ev fun n => Kx n (yE v inst ys (to ++ [u]) a').1 (yE v inst ys (to ++ [u]) a').2 (zV (yE v inst ys (to ++ [u]) a').2 0)) := fun u a' hu ha' hl' Kx => by
    have := qKF (v := v) (inst := inst) hi ht ys (to ++ [u]) z a' (by rw [<- e3, List.length_append]; rfl) (by simp; omega) (fun y hy' => hy y (List.mem_cons_of_mem _ hy')) (by rw [List.length_append]; exact hk.2) ha'
     (fun k hk' => by rcases List.mem_append.1 hk' with hk' | hk'; exact hto k hk'; rw [List.mem_singleton] at hk'; rw [hk']; exact hu) (by omega) Kx
    rw [ew]
    rw [List.length_append] at this
    exact this
   have hkm := qKK hx hk.1 hto
   have into : ((Ev fun n => Z9.j5 (fun j k l m o p q r => Z9.l3 n j k l m o p q r (Kx (n + 1))) (Z9.l9 n) n x.2.2.2.2.2.1 x.2.2.2.2.2.2 v inst t t.length to.length (to ++ z0 :: z) a (zV a 0)) ↔
     Ev fun n => Kx n (yE v inst ys (to ++ [(yN (kZ to x) a).1]) (yN (kZ to x) a).2).1 (yE v inst ys (to ++ [(yN (kZ to x) a).1]) (yN (kZ to x) a).2).2 (zV (yE v inst ys (to ++ [(yN (kZ to x) a).1]) (yN (kZ to x) a).2).2 0)) := by
    have hkl := hx.kl
    have g1 : (0 : Int) <= (x.2.2.2.2.2.2.length : Int) /\ (x.2.2.2.2.2.2.length : Int) <= 7818749353073 := ⟨by omega, by omega⟩
    have kl := qGQ (e := v) (f := inst) (g := to.length) (h := t) (i := t.length) (j := to.length) (ks := x.2.2.2.2.2.2) (c := to ++ z0 :: z) (l := a) (m := zV a 0) (o := x.1) (p := x.2.1) (q := x.2.2.1) (r := x.2.2.2.1) (s := x.2.2.2.2.1) (t := x.2.2.2.2.2.1) (u := x.2.2.2.2.2.2) hx.kl x.2.2.2.2.2.2 0 [] (List.replicate x.2.2.2.2.2.2.length 0) rfl rfl (by simp)
     (by
      have h1 := hk.1
      unfold jK at h1 ⊢
      rw [List.all_eq_true] at h1 ⊢
      intro k hk'
      have := of_decide_eq_true (h1 k hk')
      exact decide_eq_true (by rw [el]; omega))
    have em : (x.2.2.2.2.2.2.map fun k => rd (to ++ z0 :: z) k.toNat) = x.2.2.2.2.2.2.map fun k => rd to k.toNat := by
     refine List.map_congr_left fun k hk' => ?_
     have h1 := hk.1
     unfold jK at h1
     rw [List.all_eq_true] at h1
     have := of_decide_eq_true (h1 k hk')
     exact qC4 (by omega)
    simp only [Z9.j5, e2', Int.toNat_natCast, decide_true, Bool.and_true, qC g1]
    rw [List.nil_append] at kl
    rw [kl (fun n q r d s t' u e v' w x' y z A B D E I => Z8.c n w x' y z A B D E v' fun F G H => grd (decide (0 <= d) && decide (d < e.length)) (Z9.l3 n q r s t' (IntKind.wrap .i64 (u + 1)) (List.set e (Int.toNat d) F) G H (Kx (n + 1))))]
    have ad := qM2 (x := kZ to x) ha hkm hxw (by omega) (fun n F G H => grd (decide ((0 : Int) <= to.length) && decide ((to.length : Int) < (to ++ z0 :: z).length)) (Z9.l3 n v inst t t.length (IntKind.wrap .i64 ((to.length : Int) + 1)) (List.set (to ++ z0 :: z) (Int.toNat to.length) F) G H (Kx (n + 1))))
    rw [List.nil_append, em]
    refine ad.trans ?_
    have g2 : (0 : Int) <= to.length /\ (to.length : Int) < (to ++ z0 :: z).length := ⟨by omega, by rw [el]; omega⟩
    simp only [qC g2, Int.toNat_natCast, es]
    obtain ⟨q1, q2, q3, q4⟩ := qD5 (x := kZ to x) (a := a)
    rw [nxt _ _ ⟨q1, by omega⟩ (fun y hy' => (qG9 hy').elim (ha y) fun e => e ▸ hkm) q4 (fun n => Kx (n + 1))]
    exact Ev.s3 Kx _ _ _
   refine Ev.suc.trans ?_
   simp (disch := omega) only [Z9.l3, Z9.l3.b, if_pos, decide_eq_true_eq, qC, Int.toNat_natCast, e2', Ev.iteI, Z9.j6, el, es]
   rw [yE]
   by_cases h1 : x.1 = 1
   ·by_cases h2 : x.2.1 = v
    ·rw [if_pos h1, if_pos h2, if_pos ⟨h1, h2⟩]
     rw [nxt inst a hi ha (by omega) (fun n => Kx (n + 1))]
     exact Ev.s3 Kx _ _ _
    ·rw [if_pos h1, if_neg h2, if_neg (fun hh => h2 hh.2)]
     exact into
   ·rw [if_neg h1]
    simp only [Bool.false_eq_true, if_false]
    rw [if_neg (show ¬ (x.1 = 1 /\ x.2.1 = v) from fun hh => h1 hh.1)]
    exact into
theorem qHL {v inst : Int} {t a : List qA} (hi : Sm inst) (ht : t.length <= 1000) (hy : ∀ y ∈ t, kJ y /\ y.2.2.2.2.2.1.length <= 1099511627776) (hk : vB 0 t) (ha : ∀ y ∈ a, kJ y) (hal : a.length <= 1000) (R : Nat -> List Int -> List qA -> List qP -> Prop) :
  Ev (fun n => Z9.c n a (zV a 0) t v inst (R n)) ↔ Ev (fun n => R n (yE v inst t [] a).1 (yE v inst t [] a).2 (zV (yE v inst t [] a).2 0)) := by
 refine Ev.suc.trans ?_
 have g1 : (0 : Int) <= (t.length : Int) /\ (t.length : Int) <= 7818749353073 := ⟨by omega, by omega⟩
 simp only [Z9.c, Z9.w, decide_true, Bool.and_true, qC g1, Int.toNat_natCast]
 have lp := qKF (v := v) (inst := inst) hi (by omega) t [] (List.replicate t.length 0) a rfl (by simp) hy hk ha (fun _ h => by cases h) (by omega) (fun n => R (n + 1))
 rw [List.nil_append] at lp
 refine lp.trans (Ev.s3 R _ _ _)
def qCS (nodes : List qA) : Nat -> List Bool -> List Bool
 | 0, u => u
 | m + 1, u => qCS nodes m (if rd u m = true then vA u (rd nodes m).2.2.2.2.2.2 else u)
def qCR (u : List Bool) : List qA -> List Int -> List qA -> List qA
 | [], _, out => out
 | x :: r, to, out => if rd u to.length = true then qCR u r (to ++ [(out.length : Int)]) (out ++ [kZ to x]) else qCR u r (to ++ [0]) out
def qIs (nodes : List qA) (root : Nat) : List qA := qCR (qCS nodes (root + 1) ((List.replicate nodes.length false).set root true)) nodes [] []
theorem qEH {nodes : List qA} : ∀ {m : Nat} {u : List Bool}, (qCS nodes m u).length = u.length
 | 0, _ => rfl
 | m + 1, u => by
  rw [qCS, qEH]
  split
  ·exact vQ
  ·rfl
theorem xF : ∀ {ys : List qA} {i j : Nat}, vB i ys -> j < ys.length -> jK ((i + j : Nat) : Int) (rd ys j).2.2.2.2.2.2 = true
 | x :: ys, i, 0, h, _ => h.1
 | x :: ys, i, j + 1, h, hj => by
  have := xF (i := i + 1) (j := j) h.2 (by simpa using hj)
  rw [show i + (j + 1) = i + 1 + j from by omega]
  exact this
theorem qCs {a b : Int} {ks : List Int} (h : jK a ks = true) (hab : a <= b) : jK b ks = true := by
 unfold jK at h ⊢
 rw [List.all_eq_true] at h ⊢
 intro k hk
 have := of_decide_eq_true (h k hk)
 exact decide_eq_true (by omega)
theorem qIE {f : Int} {e : Nat} {b i : List qA} {h : List qP} {ks : List Int} (hks : (rd b e).2.2.2.2.2.2 = ks) (hl : ks.length <= 4096) : ∀ (ys : List Int) (x : Int) (u : List Bool), ks.drop x.toNat = ys -> 0 <= x -> jK u.length ys = true ->
  ∀ Kx : Nat -> Int -> List Bool -> List qA -> List qP -> List qA -> Prop,
  (Ev (fun n => Z10.l8 n f e ks.length b h i x u (Kx n)) ↔ Ev (fun n => Kx n f (vA u ys) b h i))
 | [], x, u, h1, h0, hk, Kx => by
  have := qO h1 h0
  refine Ev.suc.trans ?_
  simp (disch := omega) only [Z10.l8, Z10.l8.b, if_neg, decide_eq_true_eq, vA]
  exact Ev.s5 Kx _ _ _ _ _
 | y :: ys, x, u, h1, h0, hk, Kx => by
  obtain ⟨e1, e2, e3⟩ := qE h1 h0
  rw [zP] at hk
  refine Ev.suc.trans ?_
  simp (disch := omega) only [Z10.l8, Z10.l8.b, if_pos, decide_eq_true_eq, qC, hks, e2, qM]
  rw [qIE hks hl ys (x + 1) (u.set y.toNat true) e3 (by omega) (by rw [List.length_set]; exact hk.2) (fun n => Kx (n + 1)), vA]
  exact Ev.s5 Kx _ _ _ _ _
theorem qFK {nodes e : List qA} {d : List qP} (hn : nodes.length <= 1000000) (hk : vB 0 nodes) (hl : ∀ x ∈ nodes, x.2.2.2.2.2.2.length <= 4096) : ∀ (m : Nat) (u : List Bool), u.length = nodes.length -> m <= nodes.length ->
  ∀ Kx : Nat -> List Bool -> List qA -> List qP -> List qA -> Prop,
  (Ev (fun n => Z10.l4 n ((m : Int) - 1) u nodes d e (Kx n)) ↔ Ev (fun n => Kx n (qCS nodes m u) nodes d e))
 | 0, u, hu, hm, Kx => by
  refine Ev.suc.trans ?_
  simp only [Z10.l4, Z10.l4.b]
  rw [Ev.iteI, if_neg (by simp), qCS]
  exact Ev.s4 Kx _ _ _ _
 | m + 1, u, hu, hm, Kx => by
  have hx : rd nodes m ∈ nodes := by
   rw [rd, List.getD_eq_getElem?_getD, List.getElem?_eq_getElem (by omega)]
   exact List.getElem_mem _
  have ea : ((m + 1 : Nat) : Int) - 1 = (m : Int) := by omega
  have g1 : (0 : Int) <= (m : Int) /\ (m : Int) < (u.length : Int) := ⟨by omega, by omega⟩
  have g2 : (0 : Int) <= (m : Int) /\ (m : Int) < (nodes.length : Int) := ⟨by omega, by omega⟩
  refine Ev.suc.trans ?_
  simp only [Z10.l4, Z10.l4.b, ea]
  rw [Ev.iteI, if_pos (by simp), qCS]
  simp only [qC g1, qC g2, Int.toNat_natCast, Ev.iteI]
  have ew : IntKind.wrap .i64 ((m : Int) - 1) = (m : Int) - 1 := qM (by omega) (by omega)
  by_cases hr : rd u m = true
  ·rw [if_pos hr, if_pos hr]
   have hki := qCs (xF (i := 0) hk (show m < nodes.length by omega)) (show ((0 + m : Nat) : Int) <= (u.length : Int) by omega)
   rw [qIE rfl (hl _ hx) (rd nodes m).2.2.2.2.2.2 0 u rfl (by omega) hki (fun n j c b h i => Z10.l4 n (IntKind.wrap .i64 (j - 1)) c b h i (Kx (n + 1)))]
   rw [ew, qFK hn hk hl m _ (by rw [vQ]; exact hu) (by omega) (fun n => Kx (n + 1))]
   exact Ev.s4 Kx _ _ _ _
  ·rw [if_neg hr, if_neg hr, ew, qFK hn hk hl m _ hu (by omega) (fun n => Kx (n + 1))]
   exact Ev.s4 Kx _ _ _ _
theorem qGP {d e : Int} {g : List Bool} {c h : List Int} {i : List qA} {j : Nat} {k l : List qA} {m o p q r : Int} {N : Nat} (hN : N <= 4096) : ∀ (ys done : List Int), done.length + ys.length = N -> jK c.length ys = true ->
  ∀ Kx : Nat -> Int -> Int -> List Bool -> List Int -> List Int -> List Int -> List qA -> Nat -> List qA -> List qA -> Int -> Int -> Int -> Int -> Int -> Prop,
  (Ev (fun n => Z10.l20 n d e N g c h i j k l m o p q r done.length (done ++ ys) (Kx n)) ↔ Ev (fun n => Kx n d e g c h (done ++ ys.map fun k => rd c k.toNat) i j k l m o p q r))
 | [], done, hN', hk, Kx => by
  refine Ev.suc.trans ?_
  simp only [List.length_nil, Nat.add_zero] at hN'
  simp (disch := omega) only [Z10.l20, Z10.l20.b, if_neg, decide_eq_true_eq, List.map_nil]
  exact Ev.s0 fun n => Kx n d e g c h (done ++ []) i j k l m o p q r
 | y :: ys, done, hN', hk, Kx => by
  rw [zP] at hk
  rw [List.length_cons] at hN'
  have el : (done ++ y :: ys).length = done.length + (ys.length + 1) := by simp
  have er : rd (done ++ y :: ys) done.length = y := qGz
  have es : ∀ w : Int, (done ++ y :: ys).set done.length w = (done ++ [w]) ++ ys := fun w => by
   rw [List.set_append_right _ _ (Nat.le_refl _), Nat.sub_self, List.set_cons_zero]; simp
  refine Ev.suc.trans ?_
  simp (disch := omega) only [Z10.l20, Z10.l20.b, if_pos, decide_eq_true_eq, qC, Int.toNat_natCast, er, qM, el, es]
  have := qGP (d := d) (e := e) (g := g) (c := c) (h := h) (i := i) (j := j) (k := k) (l := l) (m := m) (o := o) (p := p) (q := q) (r := r) hN ys (done ++ [rd c y.toNat]) (by simp; omega) hk.2 (fun n => Kx (n + 1))
  rw [show ((done ++ [rd c y.toNat]).length : Int) = (done.length : Int) + 1 from by simp] at this
  rw [this, List.append_assoc, List.singleton_append, List.map_cons]
  exact Ev.s0 fun n => Kx n d e g c h (done ++ rd c y.toNat :: ys.map fun k => rd c k.toNat) i j k l m o p q r
theorem qKH {nodes g : List qA} {u : List Bool} (hn : nodes.length <= 1000000) (hu : u.length = nodes.length) (hl : ∀ x ∈ nodes, x.2.2.2.2.2.2.length <= 4096) : ∀ (ys : List qA) (to z : List Int) (out : List qA), nodes.drop to.length = ys -> to.length + z.length = nodes.length -> (∀ w ∈ z, w = 0) -> vB to.length ys -> out.length <= to.length ->
  ∀ Kx : Nat -> List qA -> List qA -> Prop,
  (Ev (fun n => Z10.l15 n nodes.length to.length u (to ++ z) nodes to.length g out (Kx n)) ↔ Ev (fun n => Kx n g (qCR u ys to out)))
 | [], to, z, out, h, hz, h0, hk, ho, Kx => by
  have hle := List.drop_eq_nil_iff.1 h
  refine Ev.suc.trans ?_
  simp (disch := omega) only [Z10.l15, Z10.l15.b, if_neg, decide_eq_true_eq, qCR]
  exact Ev.s2 Kx _ _
 | x :: ys, to, z, out, h, hz, h0, hk, ho, Kx => by
  have h' : nodes.drop (to.length : Int).toNat = x :: ys := h
  obtain ⟨e1, e2, e3⟩ := qE h' (by omega)
  have e2' : rd nodes to.length = x := e2
  have hx : x ∈ nodes := by
   rw [<- e2', rd, List.getD_eq_getElem?_getD, List.getElem?_eq_getElem (by omega)]
   exact List.getElem_mem _
  match z, hz, h0 with
  | [], hz, h0 => simp at hz; omega
  | z0 :: z, hz, h0 =>
   have hz0 : z0 = 0 := h0 z0 List.mem_cons_self
   subst hz0
   rw [List.length_cons] at hz
   have el : (to ++ (0 : Int) :: z).length = to.length + (z.length + 1) := by simp
   have es : ∀ w : Int, (to ++ (0 : Int) :: z).set to.length w = (to ++ [w]) ++ z := fun w => by
    rw [List.set_append_right _ _ (Nat.le_refl _), Nat.sub_self, List.set_cons_zero]; simp
   have ew : IntKind.wrap .i64 ((to.length : Int) + 1) = ((to.length + 1 : Nat) : Int) := by rw [qM (by omega) (by omega)]; simp
   have g1 : to.length <= to.length := Nat.le_refl _
   have nxt : ∀ (w : Int) (out' : List qA), out'.length <= to.length + 1 -> ∀ Kx : Nat -> List qA -> List qA -> Prop, ((Ev fun n => Z10.l15 n nodes.length (IntKind.wrap .i64 ((to.length : Int) + 1)) u ((to ++ [w]) ++ z) nodes (to.length + 1) g out' (Kx n)) ↔ Ev fun n => Kx n g (qCR u ys (to ++ [w]) out')) := fun w out' ho' Kx => by
    have := qKH (g := g) hn hu hl ys (to ++ [w]) z out' (by rw [<- e3, List.length_append]; rfl) (by simp; omega) (fun v hv => h0 v (List.mem_cons_of_mem _ hv)) (by rw [List.length_append]; exact hk.2) (by simp; omega) Kx
    rw [ew]
    rw [List.length_append] at this
    exact this
   have hkl := hl x hx
   refine Ev.suc.trans ?_
   simp (disch := omega) only [Z10.l15, Z10.l15.b, if_pos, decide_eq_true_eq, qC, zG, Int.toNat_natCast, e2', el, es, Ev.iteI]
   rw [qCR]
   cases hr : rd u to.length with
   | false =>
    rw [if_pos (by rfl), if_neg (by decide)]
    have := nxt 0 out (by omega) (fun n => Kx (n + 1))
    rw [List.append_assoc, List.singleton_append] at this
    rw [this]
    exact Ev.s2 Kx _ _
   | true =>
    rw [if_neg (by decide), if_pos rfl]
    have kb := qGP (d := nodes.length) (e := to.length) (g := u) (c := (to ++ [(out.length : Int)]) ++ z) (h := x.2.2.2.2.2.1) (i := nodes) (j := to.length + 1) (k := g) (l := out) (m := x.1) (o := x.2.1) (p := x.2.2.1) (q := x.2.2.2.1) (r := x.2.2.2.2.1) hkl x.2.2.2.2.2.2 [] (by simp) (qCs hk.1 (by simp; omega))
    have em : (x.2.2.2.2.2.2.map fun k => rd ((to ++ [(out.length : Int)]) ++ z) k.toNat) = x.2.2.2.2.2.2.map fun k => rd to k.toNat := by
     refine List.map_congr_left fun k hk' => ?_
     have h1 := hk.1
     unfold jK at h1
     rw [List.all_eq_true] at h1
     have := of_decide_eq_true (h1 k hk')
     rw [List.append_assoc]
     exact qC4 (by omega)
    rw [List.nil_append, List.nil_append, em] at kb
    refine (kb _).trans ?_
    have g2 : out.length + ([(x.1, x.2.1, x.2.2.1, x.2.2.2.1, x.2.2.2.2.1, x.2.2.2.2.2.1, x.2.2.2.2.2.2.map fun k => rd to k.toNat)] : List qA).length <= 790660046940 := by simp only [List.length_cons, List.length_nil]; omega
    simp only [zG g2]
    rw [nxt (out.length : Int) _ (by simp; omega) (fun n => Kx (n + 1))]
    exact Ev.s2 Kx _ _
theorem qKf {nodes : List qA} {d : List qP} {root : Nat} (hn : nodes.length <= 1000000) (hr : root < nodes.length) (hk : vB 0 nodes) (hl : ∀ x ∈ nodes, x.2.2.2.2.2.2.length <= 4096) (R : Nat -> List qA -> Prop) :
  Ev (fun n => Z10.c n nodes d root (R n)) ↔ Ev (fun n => R n (qIs nodes root)) := by
 have g1 : (0 : Int) <= (nodes.length : Int) /\ (nodes.length : Int) <= 35184372088832 := ⟨by omega, by omega⟩
 have g2 : (0 : Int) <= (root : Int) /\ (root : Int) < ((List.replicate nodes.length false).length : Int) := ⟨by omega, by simp; omega⟩
 have g3 : (0 : Int) <= (nodes.length : Int) /\ (nodes.length : Int) <= 7818749353073 := ⟨by omega, by omega⟩
 refine Ev.suc.trans ?_
 simp only [Z10.c, Z10.w, decide_true, Bool.and_true, qC g1, qC g2, Int.toNat_natCast]
 have n1 := qFK (e := ([] : List qA)) (d := d) hn hk hl (root + 1) ((List.replicate nodes.length false).set root true) (by simp) (by omega)
 rw [show ((root + 1 : Nat) : Int) - 1 = (root : Int) from by omega] at n1
 refine (n1 _).trans ?_
 simp only [decide_true, Bool.and_true, qC g3, Int.toNat_natCast]
 have o1 := qKH (g := ([] : List qA)) (u := qCS nodes (root + 1) ((List.replicate nodes.length false).set root true)) hn (by rw [qEH]; simp) hl nodes [] (List.replicate nodes.length 0) [] rfl (by simp) (fun w hw => (List.mem_replicate.1 hw).2) hk (by simp) (fun n o => R (n + 1))
 rw [List.nil_append] at o1
 exact o1.trans (Ev.s1 R _)
theorem qFY {a b c d e : Int} {w k : List Int} (hw : w.length <= 1099511627776) (hk : k.length <= 1099511627776) (R : Nat -> Int -> Int -> Int -> Int -> Int -> List Int -> List Int -> Prop) :
  Ev (fun n => Z69.c n a b c d e w k (R n)) ↔ Ev (fun n => R n a b c d e w k) := by
 refine Ev.suc.trans ?_
 simp (disch := (simp only [List.length_nil]; omega)) only [Z69.c, Z69.w, Ev.andI, zG, and_self, List.nil_append]
 exact Ev.s7 R _ _ _ _ _ _ _
theorem qGu {h i : Int} {b c : List Int} (hbc : b.length = c.length) (hl : b.length <= 1099511627776) : ∀ (ys zs : List Int) (x : Int), b.drop x.toNat = ys -> c.drop x.toNat = zs -> 0 <= x -> ∀ (Kx : Nat -> Prop) (Kr : Nat -> Bool -> Prop),
  (Ev (fun n => Z73.l4 n h b i c x (Kx n) (Kr n)) ↔ if ys = zs then Ev Kx else Ev (fun n => Kr n false))
 | [], zs, x, h1, h2, h0, Kx, Kr => by
  have := qO h1 h0
  have hz : zs = [] := by rw [<- h2]; exact List.drop_eq_nil_of_le (by omega)
  subst hz
  refine Ev.suc.trans ?_
  simp (disch := omega) only [Z73.l4, Z73.l4.b, if_neg, decide_eq_true_eq, if_true]
  exact Ev.s0 Kx
 | y :: ys, zs, x, h1, h2, h0, Kx, Kr => by
  obtain ⟨e1, e2, e3⟩ := qE h1 h0
  match zs, h2 with
  | [], h2 => have := qO h2 h0; omega
  | z :: zs, h2 =>
   obtain ⟨f1, f2, f3⟩ := qE h2 h0
   refine Ev.suc.trans ?_
   simp (disch := omega) only [Z73.l4, Z73.l4.b, if_pos, decide_eq_true_eq, qC, e2, f2, qM, Ev.iteI]
   rw [qGu hbc hl ys zs (x + 1) e3 f3 (by omega) (fun n => Kx (n + 1)) (fun n => Kr (n + 1)), Ev.s0 Kx, Ev.s1 Kr]
   by_cases hyz : y = z
   ·subst hyz
    simp
   ·simp [hyz]
theorem qFC {a c : Int} {b d : List Int} (hl : b.length <= 1099511627776) (R : Nat -> Bool -> Prop) :
  Ev (fun n => Z73.c n a b c d (R n)) ↔ Ev (fun n => R n (decide (a = c /\ b = d))) := by
 refine Ev.suc.trans ?_
 simp only [Z73.c, Z73.w, Ev.iteI]
 by_cases h1 : a = c
 ·rw [if_pos (by simp [h1])]
  by_cases h2 : b.length = d.length
  ·rw [if_neg (by simp [h2]), qGu h2 hl b d 0 rfl rfl (by omega) (fun n => R (n + 1) true) (fun n => R (n + 1))]
   by_cases h3 : b = d
   ·rw [if_pos h3, decide_eq_true ⟨h1, h3⟩]; exact Ev.s1 R _
   ·rw [if_neg h3, decide_eq_false (fun hh => h3 hh.2)]; exact Ev.s1 R _
  ·rw [if_pos (by simp; omega), decide_eq_false (fun hh => h2 (by rw [hh.2]))]; exact Ev.s1 R _
 ·rw [if_neg (by simp [h1]), decide_eq_false (fun hh => h1 hh.1)]; exact Ev.s1 R _
theorem qGv {h i j k l : Int} {m b : List Int} {o p q r s : Int} {t c : List Int} (hbc : b.length = c.length) (hl : b.length <= 1099511627776) : ∀ (ys zs : List Int) (x : Int), b.drop x.toNat = ys -> c.drop x.toNat = zs -> 0 <= x -> ∀ (Kx : Nat -> Prop) (Kr : Nat -> Bool -> Prop),
  (Ev (fun n => Z74.l4 n h i j k l m b o p q r s t c x (Kx n) (Kr n)) ↔ if ys = zs then Ev Kx else Ev (fun n => Kr n false))
 | [], zs, x, h1, h2, h0, Kx, Kr => by
  have := qO h1 h0
  have hz : zs = [] := by rw [<- h2]; exact List.drop_eq_nil_of_le (by omega)
  subst hz
  refine Ev.suc.trans ?_
  simp (disch := omega) only [Z74.l4, Z74.l4.b, if_neg, decide_eq_true_eq, if_true]
  exact Ev.s0 Kx
 | y :: ys, zs, x, h1, h2, h0, Kx, Kr => by
  obtain ⟨e1, e2, e3⟩ := qE h1 h0
  match zs, h2 with
  | [], h2 => have := qO h2 h0; omega
  | z :: zs, h2 =>
   obtain ⟨f1, f2, f3⟩ := qE h2 h0
   refine Ev.suc.trans ?_
   simp (disch := omega) only [Z74.l4, Z74.l4.b, if_pos, decide_eq_true_eq, qC, e2, f2, qM, Ev.iteI]
   rw [qGv hbc hl ys zs (x + 1) e3 f3 (by omega) (fun n => Kx (n + 1)) (fun n => Kr (n + 1)), Ev.s0 Kx, Ev.s1 Kr]
   by_cases hyz : y = z
   ·subst hyz
    simp
   ·simp [hyz]
theorem qFB {x y : qA} (hl : x.2.2.2.2.2.1.length <= 1099511627776) (hk : x.2.2.2.2.2.2.length <= 1099511627776) (R : Nat -> Bool -> Prop) :
  Ev (fun n => Z74.c n x.1 x.2.1 x.2.2.1 x.2.2.2.1 x.2.2.2.2.1 x.2.2.2.2.2.1 x.2.2.2.2.2.2 y.1 y.2.1 y.2.2.1 y.2.2.2.1 y.2.2.2.2.1 y.2.2.2.2.2.1 y.2.2.2.2.2.2 (R n)) ↔ Ev (fun n => R n (decide (x = y))) := by
 obtain ⟨b, c, d, e, f, g, h⟩ := x
 obtain ⟨i, j, k, l, m, o, p⟩ := y
 have no : ((b, c, d, e, f, g, h) : qA) ≠ (i, j, k, l, m, o, p) -> (Ev (fun n => R (n + 1) false) ↔ Ev (fun n => R n (decide (((b, c, d, e, f, g, h) : qA) = (i, j, k, l, m, o, p))))) := fun hne => by
  rw [decide_eq_false hne]; exact Ev.s1 R _
 refine Ev.suc.trans ?_
 simp only [Z74.c, Z74.w]
 simp only [Ev.iteI]
 by_cases h1 : b = i
 ·rw [if_pos (by simp [h1])]
  by_cases h2 : c = j
  ·rw [if_pos (by simp [h2])]
   by_cases h3 : d = k
   ·rw [if_pos (by simp [h3])]
    by_cases h4 : e = l
    ·rw [if_pos (by simp [h4])]
     rw [qFC hl (fun n r => if (!r) = false then (if (!(decide ((h.length : Int) = (p.length : Int)))) = true then R (n + 1) false else Z74.l4 n b c d e f g h i j k l m o p 0 (R (n + 1) true) (R (n + 1))) else R (n + 1) false)]
     simp only [Ev.iteI]
     by_cases h5 : f = m /\ g = o
     ·rw [if_pos (by simp [h5])]
      by_cases h6 : h.length = p.length
      ·rw [if_neg (by simp [h6]), qGv h6 hk h p 0 rfl rfl (by omega) (fun n => R (n + 1) true) (fun n => R (n + 1))]
       by_cases h7 : h = p
       ·rw [if_pos h7, decide_eq_true (by rw [h1, h2, h3, h4, h5.1, h5.2, h7])]; exact Ev.s1 R _
       ·rw [if_neg h7]; exact no fun hh => h7 (by simp only [Prod.mk.injEq] at hh; exact hh.2.2.2.2.2.2)
      ·rw [if_pos (by simp; omega)]; exact no fun hh => h6 (by simp only [Prod.mk.injEq] at hh; rw [hh.2.2.2.2.2.2])
     ·rw [if_neg (by simpa using h5)]; exact no fun hh => h5 (by simp only [Prod.mk.injEq] at hh; exact ⟨hh.2.2.2.2.1, hh.2.2.2.2.2.1⟩)
    ·rw [if_neg (by simp [h4])]; exact no fun hh => h4 (by simp only [Prod.mk.injEq] at hh; exact hh.2.2.2.1)
   ·rw [if_neg (by simp [h3])]; exact no fun hh => h3 (by simp only [Prod.mk.injEq] at hh; exact hh.2.2.1)
  ·rw [if_neg (by simp [h2])]; exact no fun hh => h2 (by simp only [Prod.mk.injEq] at hh; exact hh.2.1)
 ·rw [if_neg (by simp [h1])]; exact no fun hh => h1 (by simp only [Prod.mk.injEq] at hh; exact hh.1)
theorem qET {d : List qA} {e : Int} {c f : List Int} {g h : List qA} {i j k l m : Int} {N : Nat} (hN : N <= 4096) : ∀ (ys done : List Int), done.length + ys.length = N -> jK c.length ys = true ->
  ∀ Kx : Nat -> List qA -> Int -> List Int -> List Int -> List Int -> List qA -> List qA -> Int -> Int -> Int -> Int -> Int -> Prop,
  (Ev (fun n => Z75.l8 n d e c f g h i j k l m done.length (done ++ ys) (Kx n)) ↔ Ev (fun n => Kx n d e c f (done ++ ys.map fun k => rd c k.toNat) g h i j k l m))
 | [], done, hN', hk, Kx => by
  refine Ev.suc.trans ?_
  simp only [List.length_nil, Nat.add_zero] at hN'
  have el : (done ++ ([] : List Int)).length = done.length := by simp
  simp (disch := omega) only [Z75.l8, Z75.l8.b, if_neg, decide_eq_true_eq, List.map_nil, el]
  exact Ev.s0 fun n => Kx n d e c f (done ++ []) g h i j k l m
 | y :: ys, done, hN', hk, Kx => by
  rw [zP] at hk
  rw [List.length_cons] at hN'
  have el : (done ++ y :: ys).length = done.length + (ys.length + 1) := by simp
  have er : rd (done ++ y :: ys) done.length = y := qGz
  have es : ∀ w : Int, (done ++ y :: ys).set done.length w = (done ++ [w]) ++ ys := fun w => by
   rw [List.set_append_right _ _ (Nat.le_refl _), Nat.sub_self, List.set_cons_zero]; simp
  refine Ev.suc.trans ?_
  simp (disch := omega) only [Z75.l8, Z75.l8.b, if_pos, decide_eq_true_eq, qC, Int.toNat_natCast, er, qM, el, es]
  have := qET (d := d) (e := e) (c := c) (f := f) (g := g) (h := h) (i := i) (j := j) (k := k) (l := l) (m := m) hN ys (done ++ [rd c y.toNat]) (by simp; omega) hk.2 (fun n => Kx (n + 1))
  rw [show ((done ++ [rd c y.toNat]).length : Int) = (done.length : Int) + 1 from by simp] at this
  rw [this, List.append_assoc, List.singleton_append, List.map_cons]
  exact Ev.s0 fun n => Kx n d e c f (done ++ rd c y.toNat :: ys.map fun k => rd c k.toNat) g h i j k l m
theorem qIZ {t : List qA} {idx : Int} {to : List Int} {G out : List qA} {x : qA} (ho : out.length <= 1000000) (hw : ∀ y ∈ out, y.2.2.2.2.2.1.length <= 1099511627776 /\ y.2.2.2.2.2.2.length <= 1099511627776) : ∀ (ys : List qA) (c : Int), out.drop c.toNat = ys -> 0 <= c ->
  ∀ Kx : Nat -> List qA -> Int -> Int -> List Int -> List Int -> List Int -> List qA -> List qA -> Int -> Int -> Int -> Int -> Int -> Prop,
  (Ev (fun n => Z75.l13 n t idx to x.2.2.2.2.2.1 x.2.2.2.2.2.2 G out x.1 x.2.1 x.2.2.1 x.2.2.2.1 x.2.2.2.2.1 (-1) c (Kx n)) ↔
   Ev (fun n => Kx n t idx (qS (fun y => decide (y = x)) ys c) to x.2.2.2.2.2.1 x.2.2.2.2.2.2 G out x.1 x.2.1 x.2.2.1 x.2.2.2.1 x.2.2.2.2.1))
 | [], c, h, h0, Kx => by
  have := qO h h0
  refine Ev.suc.trans ?_
  simp (disch := omega) only [Z75.l13, Z75.l13.b, if_neg, decide_eq_true_eq, Z75.j3, Bool.false_eq_true, if_false, qS]
  exact Ev.s0 fun n => Kx n t idx (-1) to x.2.2.2.2.2.1 x.2.2.2.2.2.2 G out x.1 x.2.1 x.2.2.1 x.2.2.2.1 x.2.2.2.2.1
 | y :: ys, c, h, h0, Kx => by
  obtain ⟨e1, e2, e3⟩ := qE h h0
  have hy : y ∈ out := by
   have : y ∈ out.drop c.toNat := by rw [h]; exact List.mem_cons_self
   exact List.mem_of_mem_drop this
  have hd : decide ((-1 : Int) < 0) = true := by decide
  have g1 : 0 <= c /\ c < (out.length : Int) := ⟨h0, e1⟩
  refine Ev.suc.trans ?_
  simp only [Z75.l13, Z75.l13.b, Z75.j3, Z75.j2, hd, if_true, e2, qC g1]
  rw [Ev.iteI, if_pos (by simpa using e1), qM (x := c + 1) (by omega) (by omega)]
  rw [qFB (hw y hy).1 (hw y hy).2 (fun n l => if l = true then Z75.l13 n t idx to x.2.2.2.2.2.1 x.2.2.2.2.2.2 G out x.1 x.2.1 x.2.2.1 x.2.2.2.1 x.2.2.2.2.1 c (c + 1) (Kx (n + 1)) else Z75.l13 n t idx to x.2.2.2.2.2.1 x.2.2.2.2.2.2 G out x.1 x.2.1 x.2.2.1 x.2.2.2.1 x.2.2.2.2.1 (-1) (c + 1) (Kx (n + 1)))]
  rw [qS]
  by_cases he : decide (y = x) = true
  ·simp only [he, if_true]
   refine Ev.suc.trans ?_
   have hc : decide (c < 0) = false := decide_eq_false (by omega)
   simp only [Z75.l13, Z75.l13.b, Z75.j3, hc, Bool.false_eq_true, if_false, ite_self]
   exact (Ev.s0 fun n => Kx (n + 1) t idx c to x.2.2.2.2.2.1 x.2.2.2.2.2.2 G out x.1 x.2.1 x.2.2.1 x.2.2.2.1 x.2.2.2.2.1).trans (Ev.s0 fun n => Kx n t idx c to x.2.2.2.2.2.1 x.2.2.2.2.2.2 G out x.1 x.2.1 x.2.2.1 x.2.2.2.1 x.2.2.2.2.1)
  ·simp only [he, Bool.false_eq_true, if_false]
   rw [qIZ ho hw ys (c + 1) e3 (by omega) (fun n => Kx (n + 1))]
   exact Ev.s0 fun n => Kx n t idx (qS (fun y => decide (y = x)) ys (c + 1)) to x.2.2.2.2.2.1 x.2.2.2.2.2.2 G out x.1 x.2.1 x.2.2.1 x.2.2.2.1 x.2.2.2.2.1
def qHO (y : qA) : Prop := y.2.2.2.2.2.1.length <= 1099511627776 /\ y.2.2.2.2.2.2.length <= 4096
theorem qEy {t G : List qA} (ht : t.length <= 1000) : ∀ (ys : List qA) (to : List Int) (out : List qA), t.drop to.length = ys -> (∀ y ∈ ys, qHO y) -> (∀ y ∈ out, qHO y) -> vB to.length ys -> out.length + ys.length <= 1000 -> to.length + ys.length <= 1000 ->
  ∀ Kx : Nat -> List Int -> List qA -> List qA -> Prop,
  (Ev (fun n => Z75.l4 n t to.length to G out (Kx n)) ↔ Ev (fun n => Kx n (qX ys to out).1 G (qX ys to out).2))
 | [], to, out, h, hy, ho, hk, hl, hl2, Kx => by
  have hle := List.drop_eq_nil_iff.1 h
  refine Ev.suc.trans ?_
  simp (disch := omega) only [Z75.l4, Z75.l4.b, if_neg, decide_eq_true_eq, qX]
  exact Ev.s3 Kx _ _ _
 | x :: ys, to, out, h, hy, ho, hk, hl, hl2, Kx => by
  have h' : t.drop (to.length : Int).toNat = x :: ys := h
  obtain ⟨e1, e2, e3⟩ := qE h' (by omega)
  have e2' : rd t to.length = x := e2
  obtain ⟨hxw, hxk⟩ := hy x List.mem_cons_self
  rw [List.length_cons] at hl hl2
  have ew : IntKind.wrap .i64 ((to.length : Int) + 1) = ((to.length + 1 : Nat) : Int) := by rw [qM (by omega) (by omega)]; simp
  have hkm : qHO (kZ to x) := ⟨hxw, by show (List.map _ _).length <= 4096; rw [List.length_map]; exact hxk⟩
  have nxt : ∀ (u : Int) (out' : List qA), (∀ y ∈ out', qHO y) -> out'.length <= out.length + 1 -> ∀ Kx : Nat -> List Int -> List qA -> List qA -> Prop, ((Ev fun n => Z75.l4 n t (IntKind.wrap .i64 ((to.length : Int) + 1)) (to ++ [u]) G out' (Kx n)) ↔ Ev fun n => Kx n (qX ys (to ++ [u]) out').1 G (qX ys (to ++ [u]) out').2) := fun u out' ho' hl' Kx => by
   have := qEy (G := G) ht ys (to ++ [u]) out' (by rw [<- e3, List.length_append]; rfl) (fun y hy' => hy y (List.mem_cons_of_mem _ hy')) ho' (by rw [List.length_append]; exact hk.2) (by omega) (by simp; omega) Kx
   rw [ew]
   rw [List.length_append] at this
   exact this
  refine Ev.suc.trans ?_
  simp (disch := omega) only [Z75.l4, Z75.l4.b, if_pos, decide_eq_true_eq, qC, Int.toNat_natCast, e2']
  refine (qFY hxw (by omega) _).trans ?_
  have kb := qET (d := t) (e := to.length) (c := to) (f := x.2.2.2.2.2.1) (g := G) (h := out) (i := x.1) (j := x.2.1) (k := x.2.2.1) (l := x.2.2.2.1) (m := x.2.2.2.2.1) hxk x.2.2.2.2.2.2 [] (by simp) hk.1
  rw [List.nil_append, List.nil_append] at kb
  refine (kb _).trans ?_
  have fd := qIZ (t := t) (idx := to.length) (to := to) (G := G) (out := out) (x := kZ to x) (by omega) (fun y hy' => ⟨(ho y hy').1, Nat.le_trans (ho y hy').2 (by decide)⟩) out 0 rfl (by omega)
  refine (fd _).trans ?_
  have g1 : ∀ y : qA, out.length + ([y] : List qA).length <= 790660046940 := fun y => by simp only [List.length_cons, List.length_nil]; omega
  have g2 : ∀ u : Int, to.length + ([u] : List Int).length <= 7818749353073 := fun u => by simp only [List.length_cons, List.length_nil]; omega
  simp only [Ev.iteI, decide_eq_true_eq, zG (g1 _), zG (g2 _)]
  rw [qX, show qS (fun y => decide (y = kZ to x)) out 0 = ixA (kZ to x) out from rfl]
  unfold yN
  by_cases hi : ixA (kZ to x) out < 0
  ·rw [if_pos hi, if_pos hi]
   rw [nxt (out.length : Int) (out ++ [kZ to x]) (fun y hy' => by rcases List.mem_append.1 hy' with hy' | hy'; exact ho y hy'; rw [List.mem_singleton] at hy'; rw [hy']; exact hkm) (by simp) (fun n => Kx (n + 1))]
   exact Ev.s3 Kx _ _ _
  ·rw [if_neg hi, if_neg hi]
   rw [nxt _ out ho (by omega) (fun n => Kx (n + 1))]
   exact Ev.s3 Kx _ _ _
theorem qHy {t : List qA} (ht : t.length <= 500) (hy : ∀ y ∈ t, qHO y) (hk : vB 0 t) (R : Nat -> List qA -> List Int -> Prop) :
  Ev (fun n => Z75.c n t (R n)) ↔ Ev (fun n => R n (qX t [] []).2 (qX t [] []).1) := by
 refine Ev.suc.trans ?_
 simp only [Z75.c, Z75.w]
 have := qEy (G := ([] : List qA)) (t := t) (by omega) t [] [] rfl hy (fun _ h => by cases h) hk (by simp; omega) (by simp; omega) (fun n e g f => R (n + 1) f e)
 exact this.trans (Ev.s2 R _ _)
theorem kS : ∀ {ks : List Int} {u : List Bool} {i : Nat}, rd u i = true -> rd (vA u ks) i = true
 | [], u, i, h => h
 | k :: ks, u, i, h => by
  rw [vA]
  refine kS ?_
  by_cases e : k.toNat = i
  ·subst e
   have hl : k.toNat < u.length := by
    rcases Nat.lt_or_ge k.toNat u.length with h' | h'
    ·exact h'
    ·rw [rd, List.getD_eq_getElem?_getD, List.getElem?_eq_none h'] at h; cases h
   exact qBu hl
  ·rw [rd, List.getD_eq_getElem?_getD, List.getElem?_set, if_neg e, <- List.getD_eq_getElem?_getD]; exact h
theorem qCZ : ∀ {ks : List Int} {u : List Bool} {k : Int}, k ∈ ks -> k.toNat < u.length -> rd (vA u ks) k.toNat = true
 | [], _, _, h, _ => by cases h
 | y :: ks, u, k, h, hl => by
  rw [vA]
  rcases List.mem_cons.1 h with rfl | h
  ·exact kS (qBu hl)
  ·exact qCZ h (by rw [List.length_set]; exact hl)
theorem qB8 : ∀ {ks : List Int} {u : List Bool} {i : Nat}, rd (vA u ks) i = true -> rd u i = true \/ ∃ k ∈ ks, k.toNat = i
 | [], u, i, h => .inl h
 | k :: ks, u, i, h => by
  rw [vA] at h
  rcases qB8 h with h | ⟨k', h1, h2⟩
  ·by_cases e : k.toNat = i
   ·exact .inr ⟨k, List.mem_cons_self, e⟩
   ·left
    rw [rd, List.getD_eq_getElem?_getD, List.getElem?_set, if_neg e, <- List.getD_eq_getElem?_getD] at h
    exact h
  ·exact .inr ⟨k', List.mem_cons_of_mem _ h1, h2⟩
theorem qEi {d : List qP} : ∀ {ys : List qA} {wide : List Int} {used : List Bool} {r : List Int × List Bool} {i : Nat}, jG d ys wide used = some r -> rd r.2 i = true -> rd used i = true \/ ∃ j, j < ys.length /\ ∃ k ∈ (rd ys j).2.2.2.2.2.2, k.toNat = i
 | [], wide, used, r, i, h, hu => by rw [jG] at h; cases h; exact .inl hu
 | x :: ys, wide, used, r, i, h, hu => by
  rw [jG] at h
  cases hs : kH d x wide with
  | none => rw [hs] at h; cases h
  | some w =>
   rw [hs] at h
   rcases qEi h hu with h1 | ⟨j, h1, h2⟩
   ·rcases qB8 h1 with h1 | h1
    ·exact .inl h1
    ·exact .inr ⟨0, by simp, h1⟩
   ·exact .inr ⟨j + 1, by simpa using h1, h2⟩
theorem vH {m : Int} {ks : List Int} (h : jK m ks = true) {k : Int} (hk : k ∈ ks) : 0 <= k /\ k <= m - 1 := by
 unfold jK at h
 rw [List.all_eq_true] at h
 exact of_decide_eq_true (h k hk)
theorem qGD {a : List qA} (hk : vB 0 a) : ∀ (m : Nat) (u : List Bool), u.length = a.length -> m <= a.length -> (∀ p, m <= p -> p < a.length -> rd u p = true) ->
  (∀ p, p < m -> rd u p = true \/ ∃ q, q < m /\ ∃ k ∈ (rd a q).2.2.2.2.2.2, k.toNat = p) -> ∀ p, p < a.length -> rd (qCS a m u) p = true
 | 0, u, hu, hm, h1, h2, p, hp => h1 p (Nat.zero_le _) hp
 | m + 1, u, hu, hm, h1, h2, p, hp => by
  have hkm := xF (i := 0) (j := m) hk (by omega)
  have hmm : rd u m = true := by
   rcases h2 m (by omega) with h | ⟨q, hq, k, hk', e⟩
   ·exact h
   ·have := vH (xF (i := 0) (j := q) hk (by omega)) hk'
    omega
  rw [qCS, if_pos hmm]
  refine qGD hk m _ (by rw [vQ]; exact hu) (by omega) (fun p' hp' hl => ?_) (fun p' hp' => ?_) p hp
  ·by_cases e : p' = m
   ·rw [e]; exact kS hmm
   ·exact kS (h1 p' (by omega) hl)
  ·rcases h2 p' (by omega) with h | ⟨q, hq, k, hk', e⟩
   ·exact .inl (kS h)
   ·by_cases eq : q = m
    ·subst eq
     refine .inl ?_
     rw [<- e]
     exact qCZ hk' (by rw [e]; omega)
    ·exact .inr ⟨q, by omega, k, hk', e⟩
theorem qLJ {to : List Int} {x : qA} (h : ∀ k ∈ x.2.2.2.2.2.2, rd to k.toNat = k) : kZ to x = x := by
 unfold kZ
 rw [show (x.2.2.2.2.2.2.map fun k => rd to k.toNat) = x.2.2.2.2.2.2 from by
  conv => rhs; rw [<- List.map_id x.2.2.2.2.2.2]
  exact List.map_congr_left h]
theorem qCg {α : Type} [Inhabited α] {a : List α} {v : α} {k : Nat} : rd (a ++ [v]) k = if k = a.length then v else rd a k := by
 by_cases h : k = a.length
 ·rw [if_pos h, h]; exact qGz
 ·rw [if_neg h]
  rcases Nat.lt_or_ge k a.length with h1 | h1
  ·exact qC4 h1
  ·rw [rd, rd, List.getD_eq_getElem?_getD, List.getD_eq_getElem?_getD, List.getElem?_eq_none (by simp; omega), List.getElem?_eq_none h1]
theorem qIv {u : List Bool} {n : Nat} (hu : ∀ p, p < n -> rd u p = true) : ∀ (ys : List qA) (to : List Int) (out : List qA), to.length + ys.length = n -> to.length = out.length -> (∀ j, j < to.length -> rd to j = (j : Int)) -> vB to.length ys -> qCR u ys to out = out ++ ys
 | [], to, out, _, _, _, _ => by rw [qCR, List.append_nil]
 | x :: ys, to, out, hn, ho, ht, hk => by
  rw [List.length_cons] at hn
  rw [qCR, if_pos (hu _ (by omega))]
  have e : kZ to x = x := qLJ fun k hk' => by
   have := vH hk.1 hk'
   rw [ht k.toNat (by omega)]; omega
  rw [e, qIv hu ys (to ++ [(out.length : Int)]) (out ++ [x]) (by simp; omega) (by simp; omega) (fun j hj => by
   rw [qCg]
   split
   ·omega
   ·exact ht j (by simp at hj; omega)) (by rw [List.length_append]; exact hk.2)]
  simp
theorem qIr {a : List qA} (hk : vB 0 a) (h0 : 0 < a.length) (hl : ∀ p, p < a.length - 1 -> ∃ q, q < a.length /\ ∃ k ∈ (rd a q).2.2.2.2.2.2, k.toNat = p) : qIs a (a.length - 1) = a := by
 unfold qIs
 rw [show a.length - 1 + 1 = a.length from by omega]
 have hm : rd ((List.replicate a.length false).set (a.length - 1) true) (a.length - 1) = true := qBu (by simp; omega)
 have := qGD hk a.length ((List.replicate a.length false).set (a.length - 1) true) (by simp) (Nat.le_refl _) (fun p h1 h2 => by omega) (fun p hp => by
  by_cases e : p = a.length - 1
  ·rw [e]; exact .inl hm
  ·exact .inr (hl p (by omega)))
 have h2 := qIv this a [] [] (by simp) rfl (fun j hj => by simp at hj) hk
 rw [h2, List.nil_append]
structure SI (t : List qA) (to : List Int) (a : List qA) : Prop where
 tk : vB 0 t
 len : to.length = t.length
 at_ : ∀ i, i < t.length -> 0 <= rd to i /\ rd to i < (a.length : Int) /\ rd a (rd to i).toNat = kZ to (rd t i)
 hit : ∀ p, p < a.length -> ∃ i, i < t.length /\ rd to i = (p : Int)
 kids : vB 0 a
theorem qBh : ∀ {a b : List qA} {i : Nat}, vB i a -> vB (i + a.length) b -> vB i (a ++ b)
 | [], b, i, _, h => h
 | x :: a, b, i, h1, h2 => ⟨h1.1, qBh h1.2 (by rw [List.length_cons] at h2; rw [show i + 1 + a.length = i + (a.length + 1) from by omega]; exact h2)⟩
theorem qML {x : qA} : ∀ {a : List qA} {i : Int}, 0 <= i -> 0 <= qS (fun y => decide (y = x)) a i -> i <= qS (fun y => decide (y = x)) a i /\ rd a (qS (fun y => decide (y = x)) a i - i).toNat = x
 | [], i, _, h => by simp [qS] at h
 | y :: a, i, h0, h => by
  by_cases e : y = x
  ·rw [show qS (fun y => decide (y = x)) (y :: a) i = i from by simp [qS, e]]
   exact ⟨Int.le_refl _, by rw [Int.sub_self, e]; rfl⟩
  ·have e2 : qS (fun y => decide (y = x)) (y :: a) i = qS (fun y => decide (y = x)) a (i + 1) := by simp [qS, e]
   rw [e2] at h ⊢
   obtain ⟨h1, h2⟩ := qML (by omega) h
   refine ⟨by omega, ?_⟩
   rw [show (qS (fun y => decide (y = x)) a (i + 1) - i).toNat = (qS (fun y => decide (y = x)) a (i + 1) - (i + 1)).toNat + 1 from by omega]
   exact h2
theorem qL4 {x : qA} {a : List qA} : rd (yN x a).2 (yN x a).1.toNat = x := by
 unfold yN
 split
 ·simp only [Int.toNat_natCast]; exact qGz
 ·rename_i h
  have := (qML (x := x) (a := a) (i := 0) (by omega) (by unfold ixA at h; omega)).2
  rw [Int.sub_zero] at this
  exact this
theorem qKv {x : qA} {a : List qA} {p : Nat} (hp : p < a.length) : rd (yN x a).2 p = rd a p := by
 unfold yN
 split
 ·exact qC4 hp
 ·rfl
theorem qER {to : List Int} {v : Int} {x : qA} (h : jK to.length x.2.2.2.2.2.2 = true) : kZ (to ++ [v]) x = kZ to x := by
 unfold kZ
 rw [show (x.2.2.2.2.2.2.map fun k => rd (to ++ [v]) k.toNat) = x.2.2.2.2.2.2.map fun k => rd to k.toNat from List.map_congr_left fun k hk => qC4 (by have := vH h hk; omega)]
theorem SI.step {t : List qA} {to : List Int} {a : List qA} (h : SI t to a) {x : qA} (hx : jK t.length x.2.2.2.2.2.2 = true) : SI (t ++ [x]) (to ++ [(yN (kZ to x) a).1]) (yN (kZ to x) a).2 := by
 obtain ⟨h1, h2, h3, h4, h5⟩ := h
 obtain ⟨q1, q2, q3, q4⟩ := qD5 (x := kZ to x) (a := a)
 refine ⟨qBh h1 ⟨by simpa using hx, trivial⟩, by simp [h2], fun i hi => ?_, fun p hp => ?_, ?_⟩
 ·rw [qCg, qCg, h2]
  by_cases e : i = t.length
  ·rw [if_pos e, if_pos e]
   exact ⟨q1, q2, by rw [qL4, qER (by rw [h2]; exact hx)]⟩
  ·rw [if_neg e, if_neg e]
   have hi' : i < t.length := by simp at hi; omega
   obtain ⟨a1, a2, a3⟩ := h3 i hi'
   exact ⟨a1, by omega, by rw [qKv (by omega), a3, qER (qCs (xF (i := 0) h1 hi') (by omega))]⟩
 ·by_cases e : p < a.length
  ·obtain ⟨i, i1, i2⟩ := h4 p e
   exact ⟨i, by simp; omega, by rw [qCg, if_neg (by omega)]; exact i2⟩
  ·refine ⟨t.length, by simp, ?_⟩
   rw [qCg, if_pos h2.symm]
   unfold yN at hp ⊢
   split
   ·rename_i hi; rw [if_pos hi] at hp; simp at hp ⊢; omega
   ·rename_i hi; rw [if_neg hi] at hp; exact absurd hp e
 ·unfold yN
  split
  ·refine qBh h5 ⟨?_, trivial⟩
   unfold jK
   rw [List.all_eq_true]
   intro k hk
   obtain ⟨j, hj, rfl⟩ := List.mem_map.1 hk
   have := vH hx hj
   have := h3 j.toNat (by omega)
   exact decide_eq_true (by simp; omega)
  ·exact h5
theorem SI.go : ∀ {ys t : List qA} {to : List Int} {a : List qA}, SI t to a -> vB t.length ys -> SI (t ++ ys) (qX ys to a).1 (qX ys to a).2
 | [], t, to, a, h, _ => by rw [qX, List.append_nil]; exact h
 | x :: ys, t, to, a, h, hk => by
  rw [qX, show t ++ x :: ys = (t ++ [x]) ++ ys from by simp]
  exact SI.go (h.step hk.1) (by rw [List.length_append]; exact hk.2)
theorem SI.of {t : List qA} (hk : vB 0 t) : SI t (qX t [] []).1 (qX t [] []).2 := by
 have := SI.go (ys := t) (t := []) (to := []) (a := []) ⟨trivial, rfl, fun i hi => by simp at hi, fun p hp => by simp at hp, trivial⟩ hk
 rwa [List.nil_append] at this
theorem SI.kid {t : List qA} {to : List Int} {a : List qA} (h : SI t to a) {i j : Nat} (hj : j < t.length) {k : Int} (hk : k ∈ (rd t j).2.2.2.2.2.2) (hi : k.toNat = i) : i < t.length /\ rd to i ∈ (rd a (rd to j).toNat).2.2.2.2.2.2 /\ rd to i < rd to j := by
 obtain ⟨a1, a2, a3⟩ := h.at_ j hj
 have hm := vH (xF (i := 0) h.tk hj) hk
 have hmem : rd to i ∈ (rd a (rd to j).toNat).2.2.2.2.2.2 := by
  rw [a3]
  show rd to i ∈ List.map _ _
  exact List.mem_map.2 ⟨k, hk, by rw [hi]⟩
 have := vH (xF (i := 0) (j := (rd to j).toNat) h.kids (by omega)) hmem
 exact ⟨by omega, hmem, by omega⟩
theorem SI.last {t : List qA} {to : List Int} {a : List qA} (h : SI t to a) (h0 : 0 < t.length) (hu : ∀ i, i < t.length - 1 -> ∃ j, j < t.length /\ ∃ k ∈ (rd t j).2.2.2.2.2.2, k.toNat = i) :
  rd to (t.length - 1) = (a.length : Int) - 1 /\ 0 < a.length /\ ∀ p, p < a.length - 1 -> ∃ q, q < a.length /\ ∃ k ∈ (rd a q).2.2.2.2.2.2, k.toNat = p := by
 have up : ∀ (d i : Nat), t.length - 1 - i = d -> i <= t.length - 1 -> rd to i <= rd to (t.length - 1) := by
  intro d
  induction d using Nat.strongRecOn with
  | _ d ih =>
   intro i hd hi
   by_cases e : i = t.length - 1
   ·rw [e]; exact Int.le_refl _
   ·obtain ⟨j, hj, k, hk, e2⟩ := hu i (by omega)
    have hm := vH (xF (i := 0) h.tk hj) hk
    have := (h.kid hj hk e2).2.2
    have := ih (t.length - 1 - j) (by omega) j rfl (by omega)
    omega
 have hlast := h.at_ (t.length - 1) (by omega)
 have ha : 0 < a.length := by omega
 have e1 : rd to (t.length - 1) = (a.length : Int) - 1 := by
  obtain ⟨i, hi, e⟩ := h.hit (a.length - 1) (by omega)
  have := up _ i rfl (by omega)
  omega
 refine ⟨e1, ha, fun p hp => ?_⟩
 obtain ⟨i, hi, e⟩ := h.hit p (by omega)
 have hne : i ≠ t.length - 1 := by rintro rfl; omega
 obtain ⟨j, hj, k, hk, e2⟩ := hu i (by omega)
 obtain ⟨_, r1, r2⟩ := h.kid hj hk e2
 have := h.at_ j hj
 exact ⟨(rd to j).toNat, by omega, rd to i, r1, by omega⟩
theorem qHq {d : List qP} {t : List qA} (h : ¬ qAa d t < 0) : ∀ i, i < t.length - 1 -> ∃ j, j < t.length /\ ∃ k ∈ (rd t j).2.2.2.2.2.2, k.toNat = i := by
 have h2 := (qAx h).1
 unfold zL at h2
 split at h2
 ·cases hg : jG d t [] (List.replicate t.length false) with
  | none => rw [hg] at h2; cases h2
  | some r =>
   rw [hg] at h2
   simp only at h2
   intro i hi
   have hlen := (wT (fun w hw => by cases hw) hg).2.2
   rw [List.length_replicate] at hlen
   have hr : rd r.2 i = true := by
    rw [List.all_eq_true] at h2
    have hm : rd r.2 i ∈ r.2.take (t.length - 1) := by
     rw [rd, List.getD_eq_getElem?_getD, List.getElem?_eq_getElem (by omega), Option.getD_some]
     exact List.mem_take_iff_getElem.2 ⟨i, by omega, rfl⟩
    have := h2 _ hm
    simpa using this
   rcases qEi hg hr with h3 | h3
   ·rw [rd, List.getD_eq_getElem?_getD, List.getElem?_replicate] at h3
    split at h3 <;> cases h3
   ·exact h3
 ·cases h2
theorem qEr {d : List qP} : ∀ {ys : List qA} {wide : List Int} {used : List Bool} {r : List Int × List Bool}, WOk wide -> jG d ys wide used = some r -> ∀ x ∈ ys, ∃ (wide' : List Int) (w : Int), WOk wide' /\ wide'.length <= wide.length + ys.length /\ kH d x wide' = some w
 | [], _, _, _, _, _, x, hx => by cases hx
 | y :: ys, wide, used, r, hw, h, x, hx => by
  rw [jG] at h
  cases hs : kH d y wide with
  | none => rw [hs] at h; cases h
  | some w =>
   rw [hs] at h
   rcases List.mem_cons.1 hx with rfl | hx
   ·exact ⟨wide, w, hw, by omega, hs⟩
   ·obtain ⟨w', v, h1, h2, h3⟩ := qEr (hw.app (qGs hs)) h x hx
    exact ⟨w', v, h1, by simp at h2 ⊢; omega, h3⟩
theorem qMt {d : List qP} {x : qA} {wide : List Int} {w : Int} (hd : d.length <= 60) (hl : wide.length <= 1000) (hw : WOk wide) (hx : Wd x.2.2.2.2.2.1) (h : kH d x wide = some w) : kJ x := by
 obtain ⟨⟨hk, hkl⟩, hcase⟩ := qLu hw h
 unfold kH at h
 split at h
 ·rename_i hc
  obtain ⟨_, hp, hkb⟩ := hc
  rw [vN, decide_eq_true_eq] at hp
  rw [kI, decide_eq_true_eq] at hkb
  obtain ⟨p1, p2, p3, p4⟩ := hp
  refine ⟨?_, ?_, ?_, ?_, hx, fun k hk' => ?_, hkl, ?_⟩
  ·unfold Sm; rcases hcase with h1 | h1 | h1 <;> omega
  ·unfold Sm; rcases hcase with h1 | h1 | h1 <;> omega
  ·unfold Sm; rcases hcase with h1 | h1 | h1 <;> omega
  ·unfold Sm; rcases hcase with h1 | h1 | h1 <;> omega
  ·have := vH hk hk'
   exact ⟨this.1, by omega⟩
  ·rcases hkb with h1 | h1 | h1 | h1
   ·rcases p4 with p4 | p4
    ·omega
    ·exact .inr ⟨p4.1, List.eq_nil_of_length_eq_zero p4.2⟩
   ·exact .inl h1.2.2
   ·rcases p4 with p4 | p4
    ·omega
    ·exact .inr ⟨p4.1, List.eq_nil_of_length_eq_zero p4.2⟩
   ·rcases p4 with p4 | p4
    ·omega
    ·exact .inr ⟨p4.1, List.eq_nil_of_length_eq_zero p4.2⟩
 ·cases h
theorem qIj {d : List qP} {t : List qA} (h : ¬ qAa d t < 0) (hd : d.length <= 60) (hw : ∀ x ∈ t, Wd x.2.2.2.2.2.1) : ∀ x ∈ t, kJ x := by
 obtain ⟨h2, _, hlen, _⟩ := qAx h
 unfold zL at h2
 split at h2
 ·cases hg : jG d t [] (List.replicate t.length false) with
  | none => rw [hg] at h2; cases h2
  | some r =>
   intro x hx
   obtain ⟨wide, w, h3, h4, h5⟩ := qEr (fun w hw => by cases hw) hg x hx
   exact qMt hd (by simp at h4; omega) h3 (hw x hx) h5
 ·cases h2
theorem kJ.len {x : qA} (h : kJ x) : qHO x := by
 refine ⟨?_, h.kl⟩
 rcases h.ok with h1 | ⟨_, h1⟩
 ·obtain ⟨ws, e, ho⟩ := kY h.w h1
  rw [e]
  have := ho.len
  have := ho.hi
  simp [W]; omega
 ·rw [h1]; simp
theorem qJa {d : List qP} (h : wJ d = true) : d.length <= 60 := by
 unfold wJ at h
 rw [Bool.and_eq_true, decide_eq_true_eq] at h
 exact h.1
def qBs (d : List qP) (t : List qA) : List qA := if yA d t < 0 then [] else (qX t [] []).2
theorem qFG {d : List qP} {t : List qA} (hS : ∀ x ∈ t, kJ x) : yE (-1) 0 t [] [] = qX t [] [] :=
 qC6 fun y hy hh => by have := (hS y hy).v.1; omega
theorem qB7 : ∀ {ys : List qA} {to : List Int} {a : List qA}, (qX ys to a).2.length <= a.length + ys.length /\ (qX ys to a).1.length = to.length + ys.length
 | [], to, a => by simp [qX]
 | x :: ys, to, a => by
  rw [qX, List.length_cons]
  have := qD5 (x := kZ to x) (a := a)
  have := qB7 (ys := ys) (to := to ++ [(yN (kZ to x) a).1]) (a := (yN (kZ to x) a).2)
  simp only [List.length_append, List.length_cons, List.length_nil] at this
  omega
theorem qEz : ∀ {ys : List qA} {to : List Int} {a : List qA}, (∀ y ∈ ys, kJ y) -> (∀ y ∈ a, kJ y) -> vB to.length ys -> (∀ k ∈ to, Sm k) -> a.length + ys.length <= 1000000 -> ∀ y ∈ (qX ys to a).2, kJ y
 | [], to, a, _, ha, _, _, _ => by rw [qX]; exact ha
 | x :: ys, to, a, hy, ha, hk, ht, hl => by
  rw [List.length_cons] at hl
  have q := qD5 (x := kZ to x) (a := a)
  have hkm := qKK (hy x List.mem_cons_self) hk.1 ht
  rw [qX]
  exact qEz (fun y hy' => hy y (List.mem_cons_of_mem _ hy')) (fun y hy' => (qG9 hy').elim (ha y) fun e => e ▸ hkm) (by rw [List.length_append]; exact hk.2)
   (fun k hk' => by rcases List.mem_append.1 hk' with hk' | hk'; exact ht k hk'; rw [List.mem_singleton] at hk'; rw [hk']; exact ⟨q.1, by omega⟩) (by omega)
theorem qJU {d : List qP} {t : List qA} (h : ¬ qAa d t < 0) (hd : d.length <= 60) (hw : ∀ x ∈ t, Wd x.2.2.2.2.2.1) (R : Nat -> List qA -> Prop) :
  Ev (fun n => Z18.c n t (R n)) ↔ Ev (fun n => R n (qX t [] []).2) := by
 have hS := qIj h hd hw
 obtain ⟨_, h1, h400, hk⟩ := qAx h
 have hSI := SI.of hk
 obtain ⟨l1, l2, l3⟩ := hSI.last (by omega) (qHq h)
 have hlen := qB7 (ys := t) (to := []) (a := [])
 have hSa := qEz (ys := t) (to := []) (a := []) hS (fun _ h => by cases h) hk (fun _ h => by cases h) (by simp; omega)
 have ad := fun R => qHL (v := -1) (inst := 0) (t := t) (a := []) ⟨by omega, by omega⟩ (by omega) (fun y hy => ⟨hS y hy, (hS y hy).len.1⟩) hk (fun _ h => by cases h) (by simp) R
 rw [qFG (d := d) hS] at ad
 simp only [List.length_nil, Nat.zero_add] at hlen
 have fr := fun R => qKf (nodes := (qX t [] []).2) (d := zV (qX t [] []).2 0) (root := (qX t [] []).2.length - 1) (by omega) (by omega) hSI.kids (fun x hx => (hSa x hx).kl) R
 rw [qIr hSI.kids l2 l3] at fr
 refine Ev.suc.trans ?_
 simp only [Z18.c, Z18.w]
 refine Ev.suc.trans ?_
 simp only [Z17.c, Z17.w]
 have ew : IntKind.wrap .i64 (((qX t [] []).1.length : Int) - 1) = ((t.length - 1 : Nat) : Int) := by rw [hlen.2, qM (by omega) (by omega)]; omega
 have g1 : (0 : Int) <= ((t.length - 1 : Nat) : Int) /\ ((t.length - 1 : Nat) : Int) < ((qX t [] []).1.length : Int) := ⟨by omega, by rw [hlen.2]; omega⟩
 have ad2 := ad (fun n a e f => grd (decide (0 <= IntKind.wrap .i64 ((a.length : Int) - 1)) && decide (IntKind.wrap .i64 ((a.length : Int) - 1) < (a.length : Int))) (Z10.c n e f (rd a (Int.toNat (IntKind.wrap .i64 ((a.length : Int) - 1)))) (R (n + 1 + 1))))
 have adS : (Ev fun n => Z9.c (n + 1) [] [] t (-1) 0 fun a e f => grd (decide (0 <= IntKind.wrap .i64 ((a.length : Int) - 1)) && decide (IntKind.wrap .i64 ((a.length : Int) - 1) < (a.length : Int))) (Z10.c (n + 1) e f (rd a (Int.toNat (IntKind.wrap .i64 ((a.length : Int) - 1)))) (R (n + 1 + 1)))) ↔
   Ev fun n => Z9.c n [] [] t (-1) 0 fun a e f => grd (decide (0 <= IntKind.wrap .i64 ((a.length : Int) - 1)) && decide (IntKind.wrap .i64 ((a.length : Int) - 1) < (a.length : Int))) (Z10.c n e f (rd a (Int.toNat (IntKind.wrap .i64 ((a.length : Int) - 1)))) (R (n + 1))) :=
  Ev.s0 fun n => Z9.c n [] [] t (-1) 0 fun a e f => grd (decide (0 <= IntKind.wrap .i64 ((a.length : Int) - 1)) && decide (IntKind.wrap .i64 ((a.length : Int) - 1) < (a.length : Int))) (Z10.c n e f (rd a (Int.toNat (IntKind.wrap .i64 ((a.length : Int) - 1)))) (R (n + 1)))
 refine adS.trans ?_
 have ad3 := ad (fun n a e f => grd (decide (0 <= IntKind.wrap .i64 ((a.length : Int) - 1)) && decide (IntKind.wrap .i64 ((a.length : Int) - 1) < (a.length : Int))) (Z10.c n e f (rd a (Int.toNat (IntKind.wrap .i64 ((a.length : Int) - 1)))) (R (n + 1))))
 refine Iff.trans ad3 ?_
 rw [ew]
 simp only [qC g1, Int.toNat_natCast, l1]
 rw [show ((qX t [] []).2.length : Int) - 1 = (((qX t [] []).2.length - 1 : Nat) : Int) from by omega, fr (fun n => R (n + 1))]
 exact Ev.s1 R _
theorem qIe {d : List qP} {t : List qA} (hd : d.length <= 1099511627776) (hw : ∀ x ∈ t, Wd x.2.2.2.2.2.1) (R : Nat -> List qA -> Prop) :
  Ev (fun n => Z2.c n d t (R n)) ↔ Ev (fun n => R n (qBs d t)) := by
 refine Ev.suc.trans ?_
 simp only [Z2.c, Z2.w]
 rw [qHk hd (fun n c => if decide (c < 0) = true then R (n + 1) [] else Z18.c n t (R (n + 1)))]
 unfold qBs
 by_cases h : yA d t < 0
 ·simp only [h, decide_true, if_true]; exact Ev.s1 R _
 ·obtain ⟨h1, h2⟩ := qCX h
  simp only [h, decide_false, Bool.false_eq_true, if_false]
  rw [qJU h2 (qJa h1) hw (fun n => R (n + 1))]
  exact Ev.s1 R _
theorem qIc {d : List qP} {t : List qA} (hd : d.length <= 1099511627776) (hg : ∀ x : qA, x ∈ t -> Wd x.2.2.2.2.2.1 /\ x.2.2.2.2.2.2.length <= 1099511627776) (R : Nat -> List qA -> Prop) :
  Ev (fun n => Z63.c n d t (R n)) ↔ Ev (fun n => R n (qBs d t)) := by
 refine Ev.suc.trans ?_
 simp only [Z63.c, Z63.w]
 rw [qFw hd hg (fun n c => if decide (c < 0) = true then R (n + 1) [] else Z75.c n t fun e f => R (n + 1) e)]
 unfold qBs
 by_cases h : yA d t < 0
 ·simp only [h, decide_true, if_true]; exact Ev.s1 R _
 ·obtain ⟨h1, h2⟩ := qCX h
  obtain ⟨_, h3, h400, hk⟩ := qAx h2
  simp only [h, decide_false, Bool.false_eq_true, if_false]
  rw [qHy (by omega) (fun y hy => (qIj h2 (qJa h1) (fun x hx => (hg x hx).1) y hy).len) hk (fun n e f => R (n + 1) e)]
  exact Ev.s1 R _
def qFX : Nat -> Int -> List UInt8 -> List UInt8
 | 0, _, out => out
 | f + 1, k, out => if k > 0 then qFX f (k / 10) (qV [48 + k % 10] ++ out) else out
theorem qE9 : ∀ (f : Nat) (k : Int) (out : List UInt8), (qFX f k out).length <= out.length + f
 | 0, k, out => Nat.le_refl _
 | f + 1, k, out => by
  rw [qFX]
  split
  ·have := qE9 f (k / 10) (qV [48 + k % 10] ++ out)
   have e : (qV [48 + k % 10]).length = 1 := rfl
   rw [List.length_append, e] at this
   omega
  ·omega
theorem qHE {k : Int} (h : 0 < k) (hb : k < 9223372036854775808) : IntKind.wrap .u8 (IntKind.wrap .i64 (48 + Int.tmod k 10)) = 48 + k % 10 := by
 rw [qH1 (by omega), qM (by omega) (by omega), qMq (by omega) (by omega)]
theorem qGL : ∀ (f : Nat) (k : Int) (out : List UInt8), k < 10 ^ f -> k < 9223372036854775808 -> out.length + f <= 1000 -> ∀ (Kx : Nat -> List UInt8 -> Prop),
  (Ev (fun n => Z38.l4 n k out (Kx n)) ↔ Ev (fun n => Kx n (qFX f k out)))
 | 0, k, out, h, hb, hl, Kx => by
  have h : k < 1 := h
  refine Ev.suc.trans ?_
  simp (disch := omega) only [Z38.l4, Z38.l4.b, if_neg, decide_eq_true_eq, Ev.s1 Kx, qFX]
 | f + 1, k, out, h, hb, hl, Kx => by
  rw [qFX]
  refine Ev.suc.trans ?_
  simp only [Z38.l4, Z38.l4.b, Ev.iteI, decide_eq_true_eq]
  by_cases hk : k > 0
  ·rw [if_pos hk, if_pos hk]
   have e : IntKind.wrap .i64 (Int.tdiv k 10) = k / 10 := by rw [qH2 (by omega), qM (by omega) (by omega)]
   have hp : (10 : Int) ^ (f + 1) = 10 ^ f * 10 := Int.pow_succ 10 f
   simp (disch := (simp only [qV, List.map_cons, List.map_nil, List.length_cons, List.length_nil]; omega)) only [qHE hk hb, e, zG]
   rw [qGL f (k / 10) _ (by omega) (by omega) (by simp only [qV, List.map_cons, List.map_nil, List.length_append, List.length_cons, List.length_nil]; omega), Ev.s1 Kx]
  ·rw [if_neg hk, if_neg hk, Ev.s1 Kx]
def qLH (k : Int) : List UInt8 := [109] ++ qFX 19 k []
theorem qFL {k : Int} (h : 0 < k) (hb : k <= 4611686018427387904) (R : Nat -> List UInt8 -> Prop) :
  Ev (fun n => Z38.c n k (R n)) ↔ Ev (fun n => R n (qLH k)) := by
 refine Ev.suc.trans ?_
 have := qE9 19 k []
 simp only [List.length_nil] at this
 simp only [Z38.c, Z38.w, Ev.iteI, decide_eq_true_eq]
 rw [if_neg (by omega), qGL 19 k [] (by omega) (by omega) (by simp)]
 simp (disch := (simp only [List.length_cons, List.length_nil]; omega)) only [zG, Ev.s1 R, qLH]
theorem qNW {a0 : List UInt8} {a1 : Int} {left : Int} (h0 : -1 <= left) (h1 : left <= 1099511627776) (h2 : a0.length <= 9223372036854775807) (R : Nat -> Int -> Prop) :
  Ev (fun n => Z41.c n a0 a1 left (R n)) ↔ Ev (fun n => R n (szr left (a0.length))) := by
 refine Ev.suc.trans ?_
 simp (disch := first | assumption | omega | exact qGo (by assumption) | exact qA6 (by assumption) (by assumption)) only [Z41.c, Z41.w, qM, Ev.iteI, decide_eq_true_eq, Ev.s1 R]
 unfold szr; (repeat' split) <;> first | rfl | (exfalso; omega) | exact jV (by omega)
def kT : List qP -> Nat
 | [] => 0
 | y :: r => y.1.length + kT r
theorem qC0 {y : qP} : ∀ {l : List qP}, y ∈ l -> y.1.length <= kT l
 | [], h => absurd h List.not_mem_nil
 | a :: l, h => by
  rw [kT]
  rcases List.mem_cons.1 h with rfl | h
  ·omega
  ·have := qC0 h; omega
abbrev qMn : Ty := .prod .str (.int .i64)
theorem qHl {l : List qP} (h : Gd (.sl 0 qMn) l) : ∀ y : qP, y ∈ l -> y.1.length <= 9223372036854775807 := fun y hy => (h.2 y hy).1
theorem qK4 {l : List qP} (hl : l.length <= 9223372036854775807) : ∀ (ys : List qP) (x left : Int), l.drop x.toNat = ys -> 0 <= x -> 0 <= left -> left <= 1099511627776 -> (∀ y ∈ ys, y.1.length <= 9223372036854775807) -> ∀ (Kx : Nat -> Int -> Prop),
  (Ev (fun n => Z42.l5 n l left x (Kx n) (Kx n)) ↔ Ev (fun n => Kx n (szr left (kT ys))))
 | [], x, left, h, h0, h1, h2, hy, Kx => by
  have := qO h h0
  refine Ev.suc.trans ?_
  simp (disch := omega) only [Z42.l5, Z42.l5.b, if_neg, decide_eq_true_eq, Ev.s1 Kx, kT]
  refine jV ?_; unfold szr; split <;> omega
 | y :: ys, x, left, h, h0, h1, h2, hy, Kx => by
  obtain ⟨e1, e2, e3⟩ := qE h h0
  have hy0 := hy y List.mem_cons_self
  refine Ev.suc.trans ?_
  simp (disch := first | assumption | exact hy0.1 | exact hy0.2 | exact hy0.2.1 | exact hy0.2.2 | exact hy0.2.2.1 | exact hy0.2.2.2 | omega) only [Z42.l5, Z42.l5.b, if_pos, decide_eq_true_eq, Ev.s1 Kx, qC, e2, qNW, Ev.iteI, qM]
  split
  ·rename_i hs
   rw [kT, qGp hs]
  ·rename_i hs
   rw [qK4 hl ys (x + 1) _ e3 (by omega) (by omega) (qA6 (by omega) h2) (fun y hy' => hy y (List.mem_cons_of_mem _ hy')), kT, qH4 h1 hs, Ev.s1 Kx]
theorem qNU {l : List qP} {left : Int} (h0 : -1 <= left) (h1 : left <= 1099511627776) (hl : l.length <= 9223372036854775807) (hy : ∀ y ∈ l, y.1.length <= 9223372036854775807) (R : Nat -> Int -> Prop) :
  Ev (fun n => Z42.c n l left (R n)) ↔ Ev (fun n => R n (szr left (l.length + kT l))) := by
 refine Ev.suc.trans ?_
 simp (disch := omega) only [Z42.c, Z42.w, qM, Ev.iteI, decide_eq_true_eq, Ev.s1 R]
 split
 ·refine jV ?_; unfold szr; split <;> omega
 ·rw [qK4 hl l 0 _ rfl (by omega) (by omega) (by omega) hy, Ev.s1 R]
  refine jV ?_; unfold szr; (repeat' split) <;> omega
theorem qNK {l : List Int} {left : Int} (h0 : -1 <= left) (h1 : left <= 1099511627776) (hl : l.length <= 9223372036854775807) (R : Nat -> Int -> Prop) :
  Ev (fun n => Z47.c n l left (R n)) ↔ Ev (fun n => R n (szr left l.length)) := by
 refine Ev.suc.trans ?_
 simp (disch := omega) only [Z47.c, Z47.w, qM, Ev.iteI, decide_eq_true_eq, Ev.s1 R]
 unfold szr; split <;> split <;> first | rfl | omega | exact jV (by omega)
theorem qNY {a0 : Int} {a1 : List Int} {left : Int} (h0 : -1 <= left) (h1 : left <= 1099511627776) (h2 : a1.length <= 9223372036854775807) (R : Nat -> Int -> Prop) :
  Ev (fun n => Z40.c n a0 a1 left (R n)) ↔ Ev (fun n => R n (szr left (a1.length))) := by
 refine Ev.suc.trans ?_
 simp (disch := first | assumption | omega | exact qGo (by assumption) | exact qA6 (by assumption) (by assumption)) only [Z40.c, Z40.w, qNK, qM, Ev.iteI, decide_eq_true_eq, Ev.s1 R]
 unfold szr; (repeat' split) <;> first | rfl | (exfalso; omega) | exact jV (by omega)
theorem qNS {l : List Int} {left : Int} (h0 : -1 <= left) (h1 : left <= 1099511627776) (hl : l.length <= 9223372036854775807) (R : Nat -> Int -> Prop) :
  Ev (fun n => Z43.c n l left (R n)) ↔ Ev (fun n => R n (szr left l.length)) := by
 refine Ev.suc.trans ?_
 simp (disch := omega) only [Z43.c, Z43.w, qM, Ev.iteI, decide_eq_true_eq, Ev.s1 R]
 unfold szr; split <;> split <;> first | rfl | omega | exact jV (by omega)
theorem qNQ {a0 : Int} {a1 : Int} {a2 : Int} {a3 : Int} {a4 : Int} {a5 : List Int} {a6 : List Int} {left : Int} (h0 : -1 <= left) (h1 : left <= 1099511627776) (h2 : a5.length <= 9223372036854775807) (h3 : a6.length <= 9223372036854775807) (R : Nat -> Int -> Prop) :
  Ev (fun n => Z44.c n a0 a1 a2 a3 a4 a5 a6 left (R n)) ↔ Ev (fun n => R n (szr left (a5.length + a6.length))) := by
 refine Ev.suc.trans ?_
 simp (disch := first | assumption | omega | exact qGo (by assumption) | exact qA6 (by assumption) (by assumption)) only [Z44.c, Z44.w, qNY, qNS, qM, Ev.iteI, decide_eq_true_eq, Ev.s1 R]
 unfold szr; (repeat' split) <;> first | rfl | (exfalso; omega) | exact jV (by omega)
def jD : List qA -> Nat
 | [] => 0
 | y :: r => (y.2.2.2.2.2.1.length + y.2.2.2.2.2.2.length) + jD r
theorem wX {y : qA} : ∀ {l : List qA}, y ∈ l -> y.2.2.2.2.2.1.length + y.2.2.2.2.2.2.length <= jD l
 | [], h => absurd h List.not_mem_nil
 | a :: l, h => by
  rw [jD]
  rcases List.mem_cons.1 h with rfl | h
  ·omega
  ·have := wX h; omega
abbrev qHQ : Ty := .prod (.int .i64) (.prod (.int .i64) (.prod (.int .i64) (.prod (.int .i64) (.prod (.int .i64) (.prod (.sl 0 (.int .u64)) (.sl 0 (.int .i64)))))))
theorem qFx {l : List qA} (h : Gd (.sl 0 qHQ) l) : ∀ y : qA, y ∈ l -> y.2.2.2.2.2.1.length <= 9223372036854775807 /\ y.2.2.2.2.2.2.length <= 9223372036854775807 := fun y hy => ⟨(h.2 y hy).2.2.2.2.2.1.1, (h.2 y hy).2.2.2.2.2.2.1⟩
theorem qK3 {l : List qA} (hl : l.length <= 9223372036854775807) : ∀ (ys : List qA) (x left : Int), l.drop x.toNat = ys -> 0 <= x -> 0 <= left -> left <= 1099511627776 -> (∀ y ∈ ys, y.2.2.2.2.2.1.length <= 9223372036854775807 /\ y.2.2.2.2.2.2.length <= 9223372036854775807) -> ∀ (Kx : Nat -> Int -> Prop),
  (Ev (fun n => Z45.l5 n l left x (Kx n) (Kx n)) ↔ Ev (fun n => Kx n (szr left (jD ys))))
 | [], x, left, h, h0, h1, h2, hy, Kx => by
  have := qO h h0
  refine Ev.suc.trans ?_
  simp (disch := omega) only [Z45.l5, Z45.l5.b, if_neg, decide_eq_true_eq, Ev.s1 Kx, jD]
  refine jV ?_; unfold szr; split <;> omega
 | y :: ys, x, left, h, h0, h1, h2, hy, Kx => by
  obtain ⟨e1, e2, e3⟩ := qE h h0
  have hy0 := hy y List.mem_cons_self
  refine Ev.suc.trans ?_
  simp (disch := first | assumption | exact hy0.1 | exact hy0.2 | exact hy0.2.1 | exact hy0.2.2 | exact hy0.2.2.1 | exact hy0.2.2.2 | omega) only [Z45.l5, Z45.l5.b, if_pos, decide_eq_true_eq, Ev.s1 Kx, qC, e2, qNQ, Ev.iteI, qM]
  split
  ·rename_i hs
   rw [jD, qGp hs]
  ·rename_i hs
   rw [qK3 hl ys (x + 1) _ e3 (by omega) (by omega) (qA6 (by omega) h2) (fun y hy' => hy y (List.mem_cons_of_mem _ hy')), jD, qH4 h1 hs, Ev.s1 Kx]
theorem qNO {l : List qA} {left : Int} (h0 : -1 <= left) (h1 : left <= 1099511627776) (hl : l.length <= 9223372036854775807) (hy : ∀ y ∈ l, y.2.2.2.2.2.1.length <= 9223372036854775807 /\ y.2.2.2.2.2.2.length <= 9223372036854775807) (R : Nat -> Int -> Prop) :
  Ev (fun n => Z45.c n l left (R n)) ↔ Ev (fun n => R n (szr left (l.length + jD l))) := by
 refine Ev.suc.trans ?_
 simp (disch := omega) only [Z45.c, Z45.w, qM, Ev.iteI, decide_eq_true_eq, Ev.s1 R]
 split
 ·refine jV ?_; unfold szr; split <;> omega
 ·rw [qK3 hl l 0 _ rfl (by omega) (by omega) (by omega) hy, Ev.s1 R]
  refine jV ?_; unfold szr; (repeat' split) <;> omega
theorem qNM {a0 : List (Int × Int × Int × Int × Int × List (Int) × List (Int))} {left : Int} (h0 : -1 <= left) (h1 : left <= 1099511627776) (h2 : a0.length <= 9223372036854775807) (h3 : (∀ y : qA, y ∈ a0 -> y.2.2.2.2.2.1.length <= 9223372036854775807 /\ y.2.2.2.2.2.2.length <= 9223372036854775807)) (R : Nat -> Int -> Prop) :
  Ev (fun n => Z46.c n a0 left (R n)) ↔ Ev (fun n => R n (szr left ((a0.length + jD a0)))) := by
 refine Ev.suc.trans ?_
 simp (disch := first | assumption | omega | exact qGo (by assumption) | exact qA6 (by assumption) (by assumption)) only [Z46.c, Z46.w, qNO, qM, Ev.iteI, decide_eq_true_eq, Ev.s1 R]
 unfold szr; (repeat' split) <;> first | rfl | (exfalso; omega) | exact jV (by omega)
theorem qNG {a0 : List UInt8} {a1 : Int} (h : a0.length <= 1048576) (R : Nat -> List UInt8 -> Int -> Prop) :
  Ev (fun n => Z49.c n a0 a1 (R n)) ↔ Ev (fun n => R n a0 a1) := by
 refine Ev.suc.trans ?_
 simp (disch := omega) only [Z49.c, Z49.w, Ev.s2 R]
theorem qK2 {l : List qP} (hl : l.length <= 1048576) : ∀ (ys : List qP) (x : Int) (o : List qP), l.drop x.toNat = ys -> 0 <= x -> o.length = l.length -> (∀ y ∈ ys, y.1.length <= 1048576) -> ∀ (Kx : Nat -> List qP -> Prop),
  (Ev (fun n => Z50.l3 n l x o (Kx n)) ↔ Ev (fun n => Kx n (o.take x.toNat ++ ys)))
 | [], x, o, h, h0, ho, hy, Kx => by
  have := qO h h0
  refine Ev.suc.trans ?_
  simp (disch := omega) only [Z50.l3, Z50.l3.b, if_neg, decide_eq_true_eq, Ev.s1 Kx]
  rw [List.take_of_length_le (by omega), List.append_nil]
 | y :: ys, x, o, h, h0, ho, hy, Kx => by
  obtain ⟨e1, e2, e3⟩ := qE h h0
  have hy0 := hy y List.mem_cons_self
  refine Ev.suc.trans ?_
  simp (disch := omega) only [Z50.l3, Z50.l3.b, if_pos, decide_eq_true_eq, Ev.s1 Kx, qC, e2, qM, qNG]
  rw [qK2 hl ys (x + 1) _ e3 (by omega) (by simpa using ho) (fun y hy' => hy y (List.mem_cons_of_mem _ hy')), Ev.s1 Kx, wP (by omega) (by omega), List.append_assoc]
  rfl
theorem qNE {l : List qP} (h : (l.length + kT l) <= 1048576) (R : Nat -> List qP -> Prop) :
  Ev (fun n => Z50.c n l (R n)) ↔ Ev (fun n => R n l) := by
 refine Ev.suc.trans ?_
 simp (disch := omega) only [Z50.c, Z50.w, qC, decide_true, Bool.and_true]
 rw [qK2 (by omega) l 0 _ rfl (by omega) (by simp) (fun y hy => by have := qC0 hy; omega), Ev.s1 R]
 simp
theorem qKZ {l : List Int} (hl : l.length <= 1048576) : ∀ (ys : List Int) (x : Int) (o : List Int), l.drop x.toNat = ys -> 0 <= x -> o.length = l.length -> ∀ (Kx : Nat -> List Int -> Prop),
  (Ev (fun n => Z55.l3 n l x o (Kx n)) ↔ Ev (fun n => Kx n (o.take x.toNat ++ ys)))
 | [], x, o, h, h0, ho, Kx => by
  have := qO h h0
  refine Ev.suc.trans ?_
  simp (disch := omega) only [Z55.l3, Z55.l3.b, if_neg, decide_eq_true_eq, Ev.s1 Kx]
  rw [List.take_of_length_le (by omega), List.append_nil]
 | y :: ys, x, o, h, h0, ho, Kx => by
  obtain ⟨e1, e2, e3⟩ := qE h h0
  refine Ev.suc.trans ?_
  simp (disch := omega) only [Z55.l3, Z55.l3.b, if_pos, decide_eq_true_eq, Ev.s1 Kx, qC, e2, qM]
  rw [qKZ hl ys (x + 1) _ e3 (by omega) (by simpa using ho), Ev.s1 Kx, wP (by omega) (by omega), List.append_assoc]
  rfl
theorem qNu {l : List Int} (h : l.length <= 1048576) (R : Nat -> List Int -> Prop) :
  Ev (fun n => Z55.c n l (R n)) ↔ Ev (fun n => R n l) := by
 refine Ev.suc.trans ?_
 simp (disch := omega) only [Z55.c, Z55.w, qC, decide_true, Bool.and_true]
 rw [qKZ (by omega) l 0 _ rfl (by omega) (by simp), Ev.s1 R]
 simp
theorem qNI {a0 : Int} {a1 : List Int} (h : a1.length <= 1048576) (R : Nat -> Int -> List Int -> Prop) :
  Ev (fun n => Z48.c n a0 a1 (R n)) ↔ Ev (fun n => R n a0 a1) := by
 refine Ev.suc.trans ?_
 simp (disch := omega) only [Z48.c, Z48.w, qNu, Ev.s2 R]
theorem qK1 {l : List Int} (hl : l.length <= 1048576) : ∀ (ys : List Int) (x : Int) (o : List Int), l.drop x.toNat = ys -> 0 <= x -> o.length = l.length -> ∀ (Kx : Nat -> List Int -> Prop),
  (Ev (fun n => Z51.l3 n l x o (Kx n)) ↔ Ev (fun n => Kx n (o.take x.toNat ++ ys)))
 | [], x, o, h, h0, ho, Kx => by
  have := qO h h0
  refine Ev.suc.trans ?_
  simp (disch := omega) only [Z51.l3, Z51.l3.b, if_neg, decide_eq_true_eq, Ev.s1 Kx]
  rw [List.take_of_length_le (by omega), List.append_nil]
 | y :: ys, x, o, h, h0, ho, Kx => by
  obtain ⟨e1, e2, e3⟩ := qE h h0
  refine Ev.suc.trans ?_
  simp (disch := omega) only [Z51.l3, Z51.l3.b, if_pos, decide_eq_true_eq, Ev.s1 Kx, qC, e2, qM]
  rw [qK1 hl ys (x + 1) _ e3 (by omega) (by simpa using ho), Ev.s1 Kx, wP (by omega) (by omega), List.append_assoc]
  rfl
theorem qNC {l : List Int} (h : l.length <= 1048576) (R : Nat -> List Int -> Prop) :
  Ev (fun n => Z51.c n l (R n)) ↔ Ev (fun n => R n l) := by
 refine Ev.suc.trans ?_
 simp (disch := omega) only [Z51.c, Z51.w, qC, decide_true, Bool.and_true]
 rw [qK1 (by omega) l 0 _ rfl (by omega) (by simp), Ev.s1 R]
 simp
theorem qNA {a0 : Int} {a1 : Int} {a2 : Int} {a3 : Int} {a4 : Int} {a5 : List Int} {a6 : List Int} (h : a5.length + a6.length <= 1048576) (R : Nat -> Int -> Int -> Int -> Int -> Int -> List Int -> List Int -> Prop) :
  Ev (fun n => Z52.c n a0 a1 a2 a3 a4 a5 a6 (R n)) ↔ Ev (fun n => R n a0 a1 a2 a3 a4 a5 a6) := by
 refine Ev.suc.trans ?_
 simp (disch := omega) only [Z52.c, Z52.w, qNI, qNC, Ev.s7 R]
theorem qK0 {l : List qA} (hl : l.length <= 1048576) : ∀ (ys : List qA) (x : Int) (o : List qA), l.drop x.toNat = ys -> 0 <= x -> o.length = l.length -> (∀ y ∈ ys, y.2.2.2.2.2.1.length + y.2.2.2.2.2.2.length <= 1048576) -> ∀ (Kx : Nat -> List qA -> Prop),
  (Ev (fun n => Z53.l3 n l x o (Kx n)) ↔ Ev (fun n => Kx n (o.take x.toNat ++ ys)))
 | [], x, o, h, h0, ho, hy, Kx => by
  have := qO h h0
  refine Ev.suc.trans ?_
  simp (disch := omega) only [Z53.l3, Z53.l3.b, if_neg, decide_eq_true_eq, Ev.s1 Kx]
  rw [List.take_of_length_le (by omega), List.append_nil]
 | y :: ys, x, o, h, h0, ho, hy, Kx => by
  obtain ⟨e1, e2, e3⟩ := qE h h0
  have hy0 := hy y List.mem_cons_self
  refine Ev.suc.trans ?_
  simp (disch := omega) only [Z53.l3, Z53.l3.b, if_pos, decide_eq_true_eq, Ev.s1 Kx, qC, e2, qM, qNA]
  rw [qK0 hl ys (x + 1) _ e3 (by omega) (by simpa using ho) (fun y hy' => hy y (List.mem_cons_of_mem _ hy')), Ev.s1 Kx, wP (by omega) (by omega), List.append_assoc]
  rfl
theorem qNy {l : List qA} (h : (l.length + jD l) <= 1048576) (R : Nat -> List qA -> Prop) :
  Ev (fun n => Z53.c n l (R n)) ↔ Ev (fun n => R n l) := by
 refine Ev.suc.trans ?_
 simp (disch := omega) only [Z53.c, Z53.w, qC, decide_true, Bool.and_true]
 rw [qK0 (by omega) l 0 _ rfl (by omega) (by simp) (fun y hy => by have := wX hy; omega), Ev.s1 R]
 simp
theorem qNw {a0 : List (Int × Int × Int × Int × Int × List (Int) × List (Int))} (h : (a0.length + jD a0) <= 1048576) (R : Nat -> List (Int × Int × Int × Int × Int × List (Int) × List (Int)) -> Prop) :
  Ev (fun n => Z54.c n a0 (R n)) ↔ Ev (fun n => R n a0) := by
 refine Ev.suc.trans ?_
 simp (disch := omega) only [Z54.c, Z54.w, qNy, Ev.s1 R]
theorem qLd {l l' : List Int} (hl : l.length <= 1099511627776) (hll : l.length = l'.length) : ∀ (ys ys' : List Int) (x : Int), l.drop x.toNat = ys -> l'.drop x.toNat = ys' -> 0 <= x -> ∀ (Kx : Nat -> Prop) (Kr : Nat -> Bool -> Prop),
  (Ev (fun n => Z29.l4 n l l' x (Kx n) (Kr n)) ↔ if ys = ys' then Ev Kx else Ev (fun n => Kr n false))
 | [], [], x, h, h', h0, Kx, Kr => by
  have := qO h h0
  refine Ev.suc.trans ?_
  simp (disch := omega) only [Z29.l4, Z29.l4.b, if_neg, decide_eq_true_eq, Ev.s0 Kx, if_true]
 | [], y' :: ys', x, h, h', h0, Kx, Kr => by
  have := qO h h0; have := (qE h' h0).1; omega
 | y :: ys, [], x, h, h', h0, Kx, Kr => by
  have := qO h' h0; have := (qE h h0).1; omega
 | y :: ys, y' :: ys', x, h, h', h0, Kx, Kr => by
  obtain ⟨e1, e2, e3⟩ := qE h h0
  obtain ⟨_, f2, f3⟩ := qE h' h0
  refine Ev.suc.trans ?_
  simp (disch := first | assumption | exact hy0.1 | exact hy0.2 | exact hy0.2.1 | exact hy0.2.2 | exact hy0.2.2.1 | exact hy0.2.2.2 | omega) only [Z29.l4, Z29.l4.b, if_pos, decide_eq_true_eq, Ev.s0 Kx, Ev.s1 Kr, qC, e2, f2, qM, Ev.iteI, Bool.not_eq_true', decide_eq_false_iff_not]
  rw [qLd hl hll ys ys' (x + 1) e3 f3 (by omega), Ev.s0 Kx, Ev.s1 Kr]
  simp only [List.cons.injEq, Prod.ext_iff]
  (repeat' split) <;> first | rfl | (exfalso; simp_all; done)
theorem qOi {l l' : List Int} (hl : l.length <= 1099511627776) (R : Nat -> Bool -> Prop) :
  Ev (fun n => Z29.c n l l' (R n)) ↔ Ev (fun n => R n (decide (l = l'))) := by
 refine Ev.suc.trans ?_
 simp (disch := omega) only [Z29.c, Z29.w, Ev.iteI, Bool.not_eq_true', decide_eq_false_iff_not, Ev.s1 R]
 split
 ·rw [decide_eq_false]; intro e; subst e; omega
 ·rw [qLd hl (by omega) l l' 0 rfl rfl (by omega), Ev.s1 R, Ev.s1 R]
  split
  ·rw [decide_eq_true ‹_›]
  ·rw [decide_eq_false ‹_›]
theorem qOv {a0 b0 : Int} {a1 b1 : List Int} (h0 : a1.length <= 1099511627776) (R : Nat -> Bool -> Prop) :
  Ev (fun n => Z22.c n a0 a1 b0 b1 (R n)) ↔ Ev (fun n => R n (decide (a0 = b0 /\ a1 = b1))) := by
 refine Ev.suc.trans ?_
 simp (disch := first | assumption | omega) only [Z22.c, Z22.w, qOi, Ev.iteI, Bool.not_eq_true', decide_eq_false_iff_not, beq_eq_false_iff_ne, ne_eq, Ev.s1 R]
 (repeat' split) <;> first | (rw [decide_eq_false]; simp_all; done) | (rw [decide_eq_true]; simp_all; done)
theorem qLg {l l' : List Int} (hl : l.length <= 1099511627776) (hll : l.length = l'.length) : ∀ (ys ys' : List Int) (x : Int), l.drop x.toNat = ys -> l'.drop x.toNat = ys' -> 0 <= x -> ∀ (Kx : Nat -> Prop) (Kr : Nat -> Bool -> Prop),
  (Ev (fun n => Z25.l4 n l l' x (Kx n) (Kr n)) ↔ if ys = ys' then Ev Kx else Ev (fun n => Kr n false))
 | [], [], x, h, h', h0, Kx, Kr => by
  have := qO h h0
  refine Ev.suc.trans ?_
  simp (disch := omega) only [Z25.l4, Z25.l4.b, if_neg, decide_eq_true_eq, Ev.s0 Kx, if_true]
 | [], y' :: ys', x, h, h', h0, Kx, Kr => by
  have := qO h h0; have := (qE h' h0).1; omega
 | y :: ys, [], x, h, h', h0, Kx, Kr => by
  have := qO h' h0; have := (qE h h0).1; omega
 | y :: ys, y' :: ys', x, h, h', h0, Kx, Kr => by
  obtain ⟨e1, e2, e3⟩ := qE h h0
  obtain ⟨_, f2, f3⟩ := qE h' h0
  refine Ev.suc.trans ?_
  simp (disch := first | assumption | exact hy0.1 | exact hy0.2 | exact hy0.2.1 | exact hy0.2.2 | exact hy0.2.2.1 | exact hy0.2.2.2 | omega) only [Z25.l4, Z25.l4.b, if_pos, decide_eq_true_eq, Ev.s0 Kx, Ev.s1 Kr, qC, e2, f2, qM, Ev.iteI, Bool.not_eq_true', decide_eq_false_iff_not]
  rw [qLg hl hll ys ys' (x + 1) e3 f3 (by omega), Ev.s0 Kx, Ev.s1 Kr]
  simp only [List.cons.injEq, Prod.ext_iff]
  (repeat' split) <;> first | rfl | (exfalso; simp_all; done)
theorem qOp {l l' : List Int} (hl : l.length <= 1099511627776) (R : Nat -> Bool -> Prop) :
  Ev (fun n => Z25.c n l l' (R n)) ↔ Ev (fun n => R n (decide (l = l'))) := by
 refine Ev.suc.trans ?_
 simp (disch := omega) only [Z25.c, Z25.w, Ev.iteI, Bool.not_eq_true', decide_eq_false_iff_not, Ev.s1 R]
 split
 ·rw [decide_eq_false]; intro e; subst e; omega
 ·rw [qLg hl (by omega) l l' 0 rfl rfl (by omega), Ev.s1 R, Ev.s1 R]
  split
  ·rw [decide_eq_true ‹_›]
  ·rw [decide_eq_false ‹_›]
theorem qOn {a0 b0 : Int} {a1 b1 : Int} {a2 b2 : Int} {a3 b3 : Int} {a4 b4 : Int} {a5 b5 : List Int} {a6 b6 : List Int} (h0 : a5.length <= 1099511627776) (h1 : a6.length <= 1099511627776) (R : Nat -> Bool -> Prop) :
  Ev (fun n => Z26.c n a0 a1 a2 a3 a4 a5 a6 b0 b1 b2 b3 b4 b5 b6 (R n)) ↔ Ev (fun n => R n (decide (a0 = b0 /\ a1 = b1 /\ a2 = b2 /\ a3 = b3 /\ a4 = b4 /\ a5 = b5 /\ a6 = b6))) := by
 refine Ev.suc.trans ?_
 simp (disch := first | assumption | omega) only [Z26.c, Z26.w, qOv, qOp, Ev.iteI, Bool.not_eq_true', decide_eq_false_iff_not, beq_eq_false_iff_ne, ne_eq, Ev.s1 R]
 (repeat' split) <;> first | (rw [decide_eq_false]; simp_all; done) | (rw [decide_eq_true]; simp_all; done)
theorem qLf {l l' : List qA} (hl : l.length <= 1099511627776) (hll : l.length = l'.length) : ∀ (ys ys' : List qA) (x : Int), l.drop x.toNat = ys -> l'.drop x.toNat = ys' -> 0 <= x -> (∀ y ∈ ys, y.2.2.2.2.2.1.length <= 1099511627776 /\ y.2.2.2.2.2.2.length <= 1099511627776) -> ∀ (Kx : Nat -> Prop) (Kr : Nat -> Bool -> Prop),
  (Ev (fun n => Z27.l4 n l l' x (Kx n) (Kr n)) ↔ if ys = ys' then Ev Kx else Ev (fun n => Kr n false))
 | [], [], x, h, h', h0, hy, Kx, Kr => by
  have := qO h h0
  refine Ev.suc.trans ?_
  simp (disch := omega) only [Z27.l4, Z27.l4.b, if_neg, decide_eq_true_eq, Ev.s0 Kx, if_true]
 | [], y' :: ys', x, h, h', h0, hy, Kx, Kr => by
  have := qO h h0; have := (qE h' h0).1; omega
 | y :: ys, [], x, h, h', h0, hy, Kx, Kr => by
  have := qO h' h0; have := (qE h h0).1; omega
 | y :: ys, y' :: ys', x, h, h', h0, hy, Kx, Kr => by
  obtain ⟨e1, e2, e3⟩ := qE h h0
  obtain ⟨_, f2, f3⟩ := qE h' h0
  have hy0 := hy y List.mem_cons_self
  refine Ev.suc.trans ?_
  simp (disch := first | assumption | exact hy0.1 | exact hy0.2 | exact hy0.2.1 | exact hy0.2.2 | exact hy0.2.2.1 | exact hy0.2.2.2 | omega) only [Z27.l4, Z27.l4.b, if_pos, decide_eq_true_eq, Ev.s0 Kx, Ev.s1 Kr, qC, e2, f2, qM, qOn, Ev.iteI, Bool.not_eq_true', decide_eq_false_iff_not]
  rw [qLf hl hll ys ys' (x + 1) e3 f3 (by omega) (fun y hy' => hy y (List.mem_cons_of_mem _ hy')), Ev.s0 Kx, Ev.s1 Kr]
  simp only [List.cons.injEq, Prod.ext_iff]
  (repeat' split) <;> first | rfl | (exfalso; simp_all; done)
theorem qOl {l l' : List qA} (hl : l.length <= 1099511627776) (hy : ∀ y ∈ l, y.2.2.2.2.2.1.length <= 1099511627776 /\ y.2.2.2.2.2.2.length <= 1099511627776) (R : Nat -> Bool -> Prop) :
  Ev (fun n => Z27.c n l l' (R n)) ↔ Ev (fun n => R n (decide (l = l'))) := by
 refine Ev.suc.trans ?_
 simp (disch := omega) only [Z27.c, Z27.w, Ev.iteI, Bool.not_eq_true', decide_eq_false_iff_not, Ev.s1 R]
 split
 ·rw [decide_eq_false]; intro e; subst e; omega
 ·rw [qLf hl (by omega) l l' 0 rfl rfl (by omega) hy, Ev.s1 R, Ev.s1 R]
  split
  ·rw [decide_eq_true ‹_›]
  ·rw [decide_eq_false ‹_›]
theorem qCv {l : List qA} (h : (l.length + jD l) <= 1099511627776) : ∀ y : qA, y ∈ l -> y.2.2.2.2.2.1.length <= 1099511627776 /\ y.2.2.2.2.2.2.length <= 1099511627776 := by
 intro y hy
 have := wX hy
 exact ⟨(by omega), (by omega)⟩
theorem qLe {a0 b0 : List (Int × Int × Int × Int × Int × List (Int) × List (Int))} (h0 : a0.length <= 1099511627776) (h1 : (∀ y : qA, y ∈ a0 -> y.2.2.2.2.2.1.length <= 1099511627776 /\ y.2.2.2.2.2.2.length <= 1099511627776)) (R : Nat -> Bool -> Prop) :
  Ev (fun n => Z28.c n a0 b0 (R n)) ↔ Ev (fun n => R n (decide (a0 = b0))) := by
 refine Ev.suc.trans ?_
 simp (disch := first | assumption | omega) only [Z28.c, Z28.w, qOl, Ev.iteI, Bool.not_eq_true', decide_eq_false_iff_not, beq_eq_false_iff_ne, ne_eq, Ev.s1 R]
 (repeat' split) <;> first | (rw [decide_eq_false]; simp_all; done) | (rw [decide_eq_true]; simp_all; done)
theorem qOt {a0 b0 : List UInt8} {a1 b1 : Int} (R : Nat -> Bool -> Prop) :
  Ev (fun n => Z23.c n a0 a1 b0 b1 (R n)) ↔ Ev (fun n => R n (decide (a0 = b0 /\ a1 = b1))) := by
 refine Ev.suc.trans ?_
 simp (disch := first | assumption | omega) only [Z23.c, Z23.w, Ev.iteI, Bool.not_eq_true', decide_eq_false_iff_not, beq_eq_false_iff_ne, ne_eq, Ev.s1 R]
 (repeat' split) <;> first | (rw [decide_eq_false]; simp_all; done) | (rw [decide_eq_true]; simp_all; done)
theorem qLh {l l' : List qP} (hl : l.length <= 1099511627776) (hll : l.length = l'.length) : ∀ (ys ys' : List qP) (x : Int), l.drop x.toNat = ys -> l'.drop x.toNat = ys' -> 0 <= x -> ∀ (Kx : Nat -> Prop) (Kr : Nat -> Bool -> Prop),
  (Ev (fun n => Z24.l4 n l l' x (Kx n) (Kr n)) ↔ if ys = ys' then Ev Kx else Ev (fun n => Kr n false))
 | [], [], x, h, h', h0, Kx, Kr => by
  have := qO h h0
  refine Ev.suc.trans ?_
  simp (disch := omega) only [Z24.l4, Z24.l4.b, if_neg, decide_eq_true_eq, Ev.s0 Kx, if_true]
 | [], y' :: ys', x, h, h', h0, Kx, Kr => by
  have := qO h h0; have := (qE h' h0).1; omega
 | y :: ys, [], x, h, h', h0, Kx, Kr => by
  have := qO h' h0; have := (qE h h0).1; omega
 | y :: ys, y' :: ys', x, h, h', h0, Kx, Kr => by
  obtain ⟨e1, e2, e3⟩ := qE h h0
  obtain ⟨_, f2, f3⟩ := qE h' h0
  refine Ev.suc.trans ?_
  simp (disch := first | assumption | exact hy0.1 | exact hy0.2 | exact hy0.2.1 | exact hy0.2.2 | exact hy0.2.2.1 | exact hy0.2.2.2 | omega) only [Z24.l4, Z24.l4.b, if_pos, decide_eq_true_eq, Ev.s0 Kx, Ev.s1 Kr, qC, e2, f2, qM, qOt, Ev.iteI, Bool.not_eq_true', decide_eq_false_iff_not]
  rw [qLh hl hll ys ys' (x + 1) e3 f3 (by omega), Ev.s0 Kx, Ev.s1 Kr]
  simp only [List.cons.injEq, Prod.ext_iff]
  (repeat' split) <;> first | rfl | (exfalso; simp_all; done)
theorem qOr {l l' : List qP} (hl : l.length <= 1099511627776) (R : Nat -> Bool -> Prop) :
  Ev (fun n => Z24.c n l l' (R n)) ↔ Ev (fun n => R n (decide (l = l'))) := by
 refine Ev.suc.trans ?_
 simp (disch := omega) only [Z24.c, Z24.w, Ev.iteI, Bool.not_eq_true', decide_eq_false_iff_not, Ev.s1 R]
 split
 ·rw [decide_eq_false]; intro e; subst e; omega
 ·rw [qLh hl (by omega) l l' 0 rfl rfl (by omega), Ev.s1 R, Ev.s1 R]
  split
  ·rw [decide_eq_true ‹_›]
  ·rw [decide_eq_false ‹_›]
def qEM : List qP -> Int -> List qP
 | [], _ => []
 | y :: r, k => (qLH k, k + 1) :: qEM r (k + 1 + 1)
def yU : List qP -> Nat
 | [] => 0
 | y :: r => (2) + yU r
theorem qK9 : ∀ (ys l : List qP) (k x : Int), l.drop x.toNat = ys -> 0 <= x -> l.length <= 1099511627776 -> 0 < k -> k + (yU ys : Int) <= 4611686018427387904 -> ∀ (Kx : Nat -> Int -> List qP -> Prop),
  (Ev (fun n => Z34.l2 n k x l (Kx n)) ↔ Ev (fun n => Kx n (k + (yU ys : Int)) (l.take x.toNat ++ qEM ys k)))
 | [], l, k, x, h, h0, hl, hk, hb, Kx => by
  have := qO h h0
  refine Ev.suc.trans ?_
  simp (disch := omega) only [Z34.l2, Z34.l2.b, if_neg, decide_eq_true_eq, Ev.s2 Kx]
  rw [List.take_of_length_le (by omega), qEM, List.append_nil]
  refine qDQ ?_; simp [yU]
 | y :: ys, l, k, x, h, h0, hl, hk, hb, Kx => by
  obtain ⟨e1, e2, e3⟩ := qE h h0
  simp only [List.length_cons, yU] at hb
  refine Ev.suc.trans ?_
  simp (disch := first | assumption | exact hy0.1 | exact hy0.2 | exact hy0.2.1 | exact hy0.2.2 | exact hy0.2.2.1 | exact hy0.2.2.2 | omega) only [Z34.l2, Z34.l2.b, if_pos, decide_eq_true_eq, Ev.s2 Kx, qC, qM, qDt, qBu, List.length_set, List.set_set, e2, qFL]
  rw [qK9 ys _ _ (x + 1) (qBX e3 (by omega)) (by omega) (by simpa using hl) (by omega) (by omega), Ev.s2 Kx, wP (by omega) (by omega), List.append_assoc, qEM]
  simp only [List.length_cons, yU, List.singleton_append]
  exact qDP (by omega) (by congr 2 <;> first | rfl | omega | (congr 1; omega) | skip)
theorem qN8 {l : List qP} {k : Int} (hl : l.length <= 1099511627776) (hk : 0 < k) (hb : k + (yU l : Int) <= 4611686018427387904) (R : Nat -> Int -> List qP -> Prop) :
  Ev (fun n => Z34.c n l k (R n)) ↔ Ev (fun n => R n (k + (yU l : Int)) (qEM l k)) := by
 refine Ev.suc.trans ?_
 simp only [Z34.c, Z34.w]
 rw [qK9 l l k 0 rfl (by omega) hl hk hb, Ev.s2 R]
 rfl
theorem qFe : ∀ {l : List qP}, yU l <= 8 * (l.length + kT l)
 | [] => by simp [yU]
 | y :: r => by
  have := qFe (l := r)
  simp only [yU, kT, List.length_cons]; omega
def vX : List Int -> Int -> List Int
 | [], _ => []
 | y :: r, k => (k) :: vX r (k + 1)
theorem qK5 : ∀ (ys l : List Int) (k x : Int), l.drop x.toNat = ys -> 0 <= x -> l.length <= 1099511627776 -> 0 < k -> k + (ys.length : Int) <= 4611686018427387904 -> ∀ (Kx : Nat -> Int -> List Int -> Prop),
  (Ev (fun n => Z39.l2 n k x l (Kx n)) ↔ Ev (fun n => Kx n (k + (ys.length : Int)) (l.take x.toNat ++ vX ys k)))
 | [], l, k, x, h, h0, hl, hk, hb, Kx => by
  have := qO h h0
  refine Ev.suc.trans ?_
  simp (disch := omega) only [Z39.l2, Z39.l2.b, if_neg, decide_eq_true_eq, Ev.s2 Kx]
  rw [List.take_of_length_le (by omega), vX, List.append_nil]
  refine qDQ ?_; simp
 | y :: ys, l, k, x, h, h0, hl, hk, hb, Kx => by
  obtain ⟨e1, e2, e3⟩ := qE h h0
  simp only [List.length_cons] at hb
  refine Ev.suc.trans ?_
  simp (disch := first | assumption | exact hy0.1 | exact hy0.2 | exact hy0.2.1 | exact hy0.2.2 | exact hy0.2.2.1 | exact hy0.2.2.2 | omega) only [Z39.l2, Z39.l2.b, if_pos, decide_eq_true_eq, Ev.s2 Kx, qC, qM, qDt, qBu, List.length_set, List.set_set, e2]
  rw [qK5 ys _ _ (x + 1) (qBX e3 (by omega)) (by omega) (by simpa using hl) (by omega) (by omega), Ev.s2 Kx, wP (by omega) (by omega), List.append_assoc, vX]
  simp only [List.length_cons, List.singleton_append]
  exact qDP (by omega) (by congr 2 <;> first | rfl | omega | (congr 1; omega) | skip)
theorem qN0 {l : List Int} {k : Int} (hl : l.length <= 1099511627776) (hk : 0 < k) (hb : k + (l.length : Int) <= 4611686018427387904) (R : Nat -> Int -> List Int -> Prop) :
  Ev (fun n => Z39.c n l k (R n)) ↔ Ev (fun n => R n (k + (l.length : Int)) (vX l k)) := by
 refine Ev.suc.trans ?_
 simp only [Z39.c, Z39.w]
 rw [qK5 l l k 0 rfl (by omega) hl hk hb, Ev.s2 R]
 rfl
theorem qBy : ∀ {l : List Int} {k : Int}, (vX l k).length = l.length
 | [], _ => rfl
 | y :: l, k => by simp [vX, qBy]
def kQ : List Int -> Int -> List Int
 | [], _ => []
 | y :: r, k => (k) :: kQ r (k + 1)
theorem qK8 : ∀ (ys l : List Int) (k x : Int), l.drop x.toNat = ys -> 0 <= x -> l.length <= 1099511627776 -> 0 < k -> k + (ys.length : Int) <= 4611686018427387904 -> ∀ (Kx : Nat -> Int -> List Int -> Prop),
  (Ev (fun n => Z35.l2 n k x l (Kx n)) ↔ Ev (fun n => Kx n (k + (ys.length : Int)) (l.take x.toNat ++ kQ ys k)))
 | [], l, k, x, h, h0, hl, hk, hb, Kx => by
  have := qO h h0
  refine Ev.suc.trans ?_
  simp (disch := omega) only [Z35.l2, Z35.l2.b, if_neg, decide_eq_true_eq, Ev.s2 Kx]
  rw [List.take_of_length_le (by omega), kQ, List.append_nil]
  refine qDQ ?_; simp
 | y :: ys, l, k, x, h, h0, hl, hk, hb, Kx => by
  obtain ⟨e1, e2, e3⟩ := qE h h0
  simp only [List.length_cons] at hb
  refine Ev.suc.trans ?_
  simp (disch := first | assumption | exact hy0.1 | exact hy0.2 | exact hy0.2.1 | exact hy0.2.2 | exact hy0.2.2.1 | exact hy0.2.2.2 | omega) only [Z35.l2, Z35.l2.b, if_pos, decide_eq_true_eq, Ev.s2 Kx, qC, qM, qDt, qBu, List.length_set, List.set_set, e2]
  rw [qK8 ys _ _ (x + 1) (qBX e3 (by omega)) (by omega) (by simpa using hl) (by omega) (by omega), Ev.s2 Kx, wP (by omega) (by omega), List.append_assoc, kQ]
  simp only [List.length_cons, List.singleton_append]
  exact qDP (by omega) (by congr 2 <;> first | rfl | omega | (congr 1; omega) | skip)
theorem qN6 {l : List Int} {k : Int} (hl : l.length <= 1099511627776) (hk : 0 < k) (hb : k + (l.length : Int) <= 4611686018427387904) (R : Nat -> Int -> List Int -> Prop) :
  Ev (fun n => Z35.c n l k (R n)) ↔ Ev (fun n => R n (k + (l.length : Int)) (kQ l k)) := by
 refine Ev.suc.trans ?_
 simp only [Z35.c, Z35.w]
 rw [qK8 l l k 0 rfl (by omega) hl hk hb, Ev.s2 R]
 rfl
theorem qCp : ∀ {l : List Int} {k : Int}, (kQ l k).length = l.length
 | [], _ => rfl
 | y :: l, k => by simp [kQ, qCp]
def kB : List qA -> Int -> List qA
 | [], _ => []
 | y :: r, k => (k, k + 1, k + 1 + 1, k + 1 + 1 + 1, k + 1 + 1 + 1 + 1, vX y.2.2.2.2.2.1 (k + 1 + 1 + 1 + 1 + 1), kQ y.2.2.2.2.2.2 (k + 1 + 1 + 1 + 1 + 1 + ((y.2.2.2.2.2.1.length : Nat) : Int))) :: kB r (k + 1 + 1 + 1 + 1 + 1 + ((y.2.2.2.2.2.1.length : Nat) : Int) + ((y.2.2.2.2.2.2.length : Nat) : Int))
def zH : List qA -> Nat
 | [] => 0
 | y :: r => (5 + y.2.2.2.2.2.1.length + y.2.2.2.2.2.2.length) + zH r
theorem qK7 : ∀ (ys l : List qA) (k x : Int), l.drop x.toNat = ys -> 0 <= x -> l.length <= 1099511627776 -> 0 < k -> k + (zH ys : Int) <= 4611686018427387904 -> (∀ y ∈ ys, y.2.2.2.2.2.1.length <= 1099511627776 /\ y.2.2.2.2.2.2.length <= 1099511627776) -> ∀ (Kx : Nat -> Int -> List qA -> Prop),
  (Ev (fun n => Z36.l2 n k x l (Kx n)) ↔ Ev (fun n => Kx n (k + (zH ys : Int)) (l.take x.toNat ++ kB ys k)))
 | [], l, k, x, h, h0, hl, hk, hb, hy, Kx => by
  have := qO h h0
  refine Ev.suc.trans ?_
  simp (disch := omega) only [Z36.l2, Z36.l2.b, if_neg, decide_eq_true_eq, Ev.s2 Kx]
  rw [List.take_of_length_le (by omega), kB, List.append_nil]
  refine qDQ ?_; simp [zH]
 | y :: ys, l, k, x, h, h0, hl, hk, hb, hy, Kx => by
  obtain ⟨e1, e2, e3⟩ := qE h h0
  have hy0 := hy y List.mem_cons_self
  simp only [List.length_cons, zH] at hb
  refine Ev.suc.trans ?_
  simp (disch := first | assumption | exact hy0.1 | exact hy0.2 | exact hy0.2.1 | exact hy0.2.2 | exact hy0.2.2.1 | exact hy0.2.2.2 | omega) only [Z36.l2, Z36.l2.b, if_pos, decide_eq_true_eq, Ev.s2 Kx, qC, qM, qDt, qBu, List.length_set, List.set_set, e2, qN6, qN0]
  rw [qK7 ys _ _ (x + 1) (qBX e3 (by omega)) (by omega) (by simpa using hl) (by omega) (by omega) (fun y hy' => hy y (List.mem_cons_of_mem _ hy')), Ev.s2 Kx, wP (by omega) (by omega), List.append_assoc, kB]
  simp only [List.length_cons, zH, List.singleton_append]
  exact qDP (by omega) (by congr 2 <;> first | rfl | omega | (congr 1; omega) | skip)
theorem qN4 {l : List qA} {k : Int} (hl : l.length <= 1099511627776) (hk : 0 < k) (hb : k + (zH l : Int) <= 4611686018427387904) (hy : ∀ y ∈ l, y.2.2.2.2.2.1.length <= 1099511627776 /\ y.2.2.2.2.2.2.length <= 1099511627776) (R : Nat -> Int -> List qA -> Prop) :
  Ev (fun n => Z36.c n l k (R n)) ↔ Ev (fun n => R n (k + (zH l : Int)) (kB l k)) := by
 refine Ev.suc.trans ?_
 simp only [Z36.c, Z36.w]
 rw [qK7 l l k 0 rfl (by omega) hl hk hb hy, Ev.s2 R]
 rfl
theorem yJ {l : List qA} (h : (l.length + jD l) <= 1099511627776) : ∀ y : qA, y ∈ l -> y.2.2.2.2.2.1.length <= 1099511627776 /\ y.2.2.2.2.2.2.length <= 1099511627776 := by
 intro y hy
 have := wX hy
 exact ⟨(by omega), (by omega)⟩
theorem qBl : ∀ {l : List qA}, zH l <= 8 * (l.length + jD l)
 | [] => by simp [zH]
 | y :: r => by
  have := qBl (l := r)
  simp only [zH, jD, List.length_cons]; omega
theorem qCo : ∀ {l : List qA} {k : Int}, (kB l k).length = l.length
 | [], _ => rfl
 | y :: l, k => by simp [kB, qCo]
theorem qK6 {a0 : List (Int × Int × Int × Int × Int × List (Int) × List (Int))} {k : Int} (hk : 0 < k) (hb : k + (((zH a0) : Nat) : Int) <= 4611686018427387904) (g0 : a0.length <= 1099511627776) (g1 : (∀ y : qA, y ∈ a0 -> y.2.2.2.2.2.1.length <= 1099511627776 /\ y.2.2.2.2.2.2.length <= 1099511627776)) (R : Nat -> Int -> List (Int × Int × Int × Int × Int × List (Int) × List (Int)) -> Prop) :
  Ev (fun n => Z37.c n a0 k (R n)) ↔ Ev (fun n => R n (k + (((zH a0) : Nat) : Int)) (kB a0 k)) := by
 refine Ev.suc.trans ?_
 simp (disch := first | assumption | omega) only [Z37.c, Z37.w, qN4, Ev.s2 R]
theorem qLa {l : List Int} (hl : l.length <= 1099511627776) : ∀ (ys : List Int) (k x : Int), l.drop x.toNat = vX ys k -> 0 <= x -> 0 < k -> k + (ys.length : Int) <= 4611686018427387904 -> ∀ (Kx Kr : Nat -> Int -> Prop),
  (Ev (fun n => Z33.l2 n l k x (Kx n) (Kr n)) ↔ Ev (fun n => Kx n (k + (ys.length : Int))))
 | [], k, x, h, h0, hk, hb, Kx, Kr => by
  have := qO h h0
  refine Ev.suc.trans ?_
  simp (disch := omega) only [Z33.l2, Z33.l2.b, if_neg, decide_eq_true_eq, Ev.s1 Kx]
  refine jV ?_; simp
 | y :: ys, k, x, h, h0, hk, hb, Kx, Kr => by
  obtain ⟨e1, e2, e3⟩ := qE h h0
  simp only [List.length_cons] at hb
  refine Ev.suc.trans ?_
  simp (disch := first | assumption | exact hy0.1 | exact hy0.2 | exact hy0.2.1 | exact hy0.2.2 | exact hy0.2.2.1 | exact hy0.2.2.2 | omega) only [Z33.l2, Z33.l2.b, if_pos, if_neg, decide_eq_true_eq, Bool.not_eq_true', decide_eq_false_iff_not, not_true, if_false, Ev.s1 Kx, qC, qM, qDt, e2, beq_self_eq_true, Bool.true_eq_false, Bool.not_true, Bool.false_eq_true, decide_true, decide_not, Ev.iteI]
  rw [qLa hl ys _ (x + 1) (by first | exact e3 | (rw [e3]; congr 1 <;> omega)) (by omega) (by omega) (by omega), Ev.s1 Kx]
  refine jV ?_; simp only [List.length_cons]; try omega
theorem qOa {l : List Int} {k : Int} (hl : l.length <= 1099511627776) (hk : 0 < k) (hb : k + (l.length : Int) <= 4611686018427387904) (R : Nat -> Int -> Prop) :
  Ev (fun n => Z33.c n (vX l k) k (R n)) ↔ Ev (fun n => R n (k + (l.length : Int))) := by
 refine Ev.suc.trans ?_
 simp only [Z33.c, Z33.w]
 rw [qLa (by rw [qBy]; exact hl) l k 0 rfl (by omega) hk hb, Ev.s1 R]
theorem qLc {l : List Int} (hl : l.length <= 1099511627776) : ∀ (ys : List Int) (k x : Int), l.drop x.toNat = kQ ys k -> 0 <= x -> 0 < k -> k + (ys.length : Int) <= 4611686018427387904 -> ∀ (Kx Kr : Nat -> Int -> Prop),
  (Ev (fun n => Z30.l2 n l k x (Kx n) (Kr n)) ↔ Ev (fun n => Kx n (k + (ys.length : Int))))
 | [], k, x, h, h0, hk, hb, Kx, Kr => by
  have := qO h h0
  refine Ev.suc.trans ?_
  simp (disch := omega) only [Z30.l2, Z30.l2.b, if_neg, decide_eq_true_eq, Ev.s1 Kx]
  refine jV ?_; simp
 | y :: ys, k, x, h, h0, hk, hb, Kx, Kr => by
  obtain ⟨e1, e2, e3⟩ := qE h h0
  simp only [List.length_cons] at hb
  refine Ev.suc.trans ?_
  simp (disch := first | assumption | exact hy0.1 | exact hy0.2 | exact hy0.2.1 | exact hy0.2.2 | exact hy0.2.2.1 | exact hy0.2.2.2 | omega) only [Z30.l2, Z30.l2.b, if_pos, if_neg, decide_eq_true_eq, Bool.not_eq_true', decide_eq_false_iff_not, not_true, if_false, Ev.s1 Kx, qC, qM, qDt, e2, beq_self_eq_true, Bool.true_eq_false, Bool.not_true, Bool.false_eq_true, decide_true, decide_not, Ev.iteI]
  rw [qLc hl ys _ (x + 1) (by first | exact e3 | (rw [e3]; congr 1 <;> omega)) (by omega) (by omega) (by omega), Ev.s1 Kx]
  refine jV ?_; simp only [List.length_cons]; try omega
theorem qOg {l : List Int} {k : Int} (hl : l.length <= 1099511627776) (hk : 0 < k) (hb : k + (l.length : Int) <= 4611686018427387904) (R : Nat -> Int -> Prop) :
  Ev (fun n => Z30.c n (kQ l k) k (R n)) ↔ Ev (fun n => R n (k + (l.length : Int))) := by
 refine Ev.suc.trans ?_
 simp only [Z30.c, Z30.w]
 rw [qLc (by rw [qCp]; exact hl) l k 0 rfl (by omega) hk hb, Ev.s1 R]
theorem qLb {l : List qA} (hl : l.length <= 1099511627776) : ∀ (ys : List qA) (k x : Int), l.drop x.toNat = kB ys k -> 0 <= x -> 0 < k -> k + (zH ys : Int) <= 4611686018427387904 -> (∀ y ∈ ys, y.2.2.2.2.2.1.length <= 1099511627776 /\ y.2.2.2.2.2.2.length <= 1099511627776) -> ∀ (Kx Kr : Nat -> Int -> Prop),
  (Ev (fun n => Z31.l2 n l k x (Kx n) (Kr n)) ↔ Ev (fun n => Kx n (k + (zH ys : Int))))
 | [], k, x, h, h0, hk, hb, hy, Kx, Kr => by
  have := qO h h0
  refine Ev.suc.trans ?_
  simp (disch := omega) only [Z31.l2, Z31.l2.b, if_neg, decide_eq_true_eq, Ev.s1 Kx]
  refine jV ?_; simp [zH]
 | y :: ys, k, x, h, h0, hk, hb, hy, Kx, Kr => by
  obtain ⟨e1, e2, e3⟩ := qE h h0
  have hy0 := hy y List.mem_cons_self
  simp only [List.length_cons, zH] at hb
  refine Ev.suc.trans ?_
  simp (disch := first | assumption | exact hy0.1 | exact hy0.2 | exact hy0.2.1 | exact hy0.2.2 | exact hy0.2.2.1 | exact hy0.2.2.2 | omega) only [Z31.l2, Z31.l2.b, if_pos, if_neg, decide_eq_true_eq, Bool.not_eq_true', decide_eq_false_iff_not, not_true, if_false, Ev.s1 Kx, qC, qM, qDt, e2, qOg, qOa, beq_self_eq_true, Bool.true_eq_false, Bool.not_true, Bool.false_eq_true, decide_true, decide_not, Ev.iteI]
  rw [qLb hl ys _ (x + 1) (by first | exact e3 | (rw [e3]; congr 1 <;> omega)) (by omega) (by omega) (by omega) (fun y hy' => hy y (List.mem_cons_of_mem _ hy')), Ev.s1 Kx]
  refine jV ?_; simp only [List.length_cons, zH]; try omega
theorem qOe {l : List qA} {k : Int} (hl : l.length <= 1099511627776) (hk : 0 < k) (hb : k + (zH l : Int) <= 4611686018427387904) (hy : ∀ y ∈ l, y.2.2.2.2.2.1.length <= 1099511627776 /\ y.2.2.2.2.2.2.length <= 1099511627776) (R : Nat -> Int -> Prop) :
  Ev (fun n => Z31.c n (kB l k) k (R n)) ↔ Ev (fun n => R n (k + (zH l : Int))) := by
 refine Ev.suc.trans ?_
 simp only [Z31.c, Z31.w]
 rw [qLb (by rw [qCo]; exact hl) l k 0 rfl (by omega) hk hb hy, Ev.s1 R]
theorem qOc {a0 : List (Int × Int × Int × Int × Int × List (Int) × List (Int))} {k : Int} (hk : 0 < k) (hb : k + (((zH a0) : Nat) : Int) <= 4611686018427387904) (g0 : a0.length <= 1099511627776) (g1 : (∀ y : qA, y ∈ a0 -> y.2.2.2.2.2.1.length <= 1099511627776 /\ y.2.2.2.2.2.2.length <= 1099511627776)) (R : Nat -> Int -> Prop) :
  Ev (fun n => Z32.c n (kB a0 k) k (R n)) ↔ Ev (fun n => R n (k + (((zH a0) : Nat) : Int))) := by
 refine Ev.suc.trans ?_
 simp (disch := first | assumption | omega) only [Z32.c, Z32.w, qOe, Ev.s1 R, if_neg, decide_eq_true_eq]
theorem qO4 {l : List Int} (h : Gd (.sl 0 (.int .u64)) l) : Wd l := fun x hx => ⟨(h.2 x hx).1, (h.2 x hx).2⟩
theorem qLs {t : List qA} (h : Gd (.sl 0 qHQ) t) (hz : t.length + jD t <= 1099511627776) : ∀ x : qA, x ∈ t -> Wd x.2.2.2.2.2.1 /\ x.2.2.2.2.2.2.length <= 1099511627776 :=
 fun x hx => ⟨qO4 (h.2 x hx).2.2.2.2.2.1, by have := wX hx; omega⟩
theorem qKC : ∀ {a b : List qA}, jD (a ++ b) = jD a + jD b
 | [], b => by simp [jD]
 | x :: a, b => by rw [List.cons_append, jD, jD, qKC]; omega
theorem qCY : ∀ {ys : List qA} {to : List Int} {a : List qA}, (qX ys to a).2.length + jD (qX ys to a).2 <= a.length + jD a + (ys.length + jD ys)
 | [], to, a => by rw [qX]; simp [jD]
 | x :: ys, to, a => by
  rw [qX, List.length_cons, jD]
  have := qCY (ys := ys) (to := to ++ [(yN (kZ to x) a).1]) (a := (yN (kZ to x) a).2)
  have h2 : (yN (kZ to x) a).2.length + jD (yN (kZ to x) a).2 <= a.length + jD a + (1 + (x.2.2.2.2.2.1.length + x.2.2.2.2.2.2.length)) := by
   unfold yN
   split
   ·simp only [List.length_append, List.length_cons, List.length_nil, qKC, jD]
    have e1 : (kZ to x).2.2.2.2.2.1 = x.2.2.2.2.2.1 := rfl
    have e2 : (kZ to x).2.2.2.2.2.2.length = x.2.2.2.2.2.2.length := List.length_map _
    rw [e1, e2]; omega
   ·simp only; omega
  omega
theorem qId {d : List qP} {t : List qA} : (qBs d t).length + jD (qBs d t) <= t.length + jD t := by
 unfold qBs
 split
 ·simp [jD]
 ·have := qCY (ys := t) (to := []) (a := [])
  simp [jD] at this
  omega
theorem share_law {d : List qP} {t : List qA} (hd : Gd (.sl 0 qMn) d) (ht : Gd (.sl 0 qHQ) t) (K : Bool -> Prop) :
  True /\ (K true -> Ev (fun n => laws_FnExactShare.c n d t K)) := by
 refine ⟨trivial, fun hK => ?_⟩
 refine Ev.succ ?_
 simp only [laws_FnExactShare.c, laws_FnExactShare.w]
 rw [qNU (by omega) (by omega) hd.1 (qHl hd)]
 by_cases z1 : ((d.length + kT d : Nat) : Int) <= 1048576
 rotate_left
 ·rw [qKA z1]; exact Ev.pos (by simp) (Ev.const hK)
 rw [qKz z1]
 refine Ev.neg (by simp; omega) ?_
 rw [qNM (by omega) (by omega) ht.1 (qFx ht)]
 by_cases z2 : ((t.length + jD t : Nat) : Int) <= 1048576 - ((d.length + kT d : Nat) : Int)
 rotate_left
 ·rw [qKA z2]; exact Ev.pos (by simp) (Ev.const hK)
 rw [qKz z2]
 refine Ev.neg (by simp; omega) ?_
 simp only [and_self]
 have t1 := fun R => qNE (l := d) (by omega) R
 have t2 := fun R => qNw (a0 := t) (by omega) R
 have hwd := qLs ht (by omega)
 have sS := fun R => qIc (d := d) (t := t) (by omega) hwd R
 have sI := fun R => qIe (d := d) (t := t) (by omega) (fun x hx => (hwd x hx).1) R
 have hz := qId (d := d) (t := t)
 generalize qBs d t = r at sS sI hz
 have e0 := fun R => qLe (a0 := r) (b0 := r) (by omega) (qCv (by omega)) R
 have e1 := fun R => qOr (l := d) (l' := d) (by omega) R
 have e2 := fun R => qLe (a0 := t) (b0 := t) (by omega) (qCv (by omega)) R
 have c0 := qBl (l := r)
 have c1 := qFe (l := d)
 have c2 := qBl (l := t)
 have m1 := fun R => qN8 (l := d) (k := 1) (by omega) (by omega) (by omega) R
 have m2 := fun R => qK6 (a0 := t) (k := 1 + (yU d : Int)) (by omega) (by omega) (by omega) (yJ (by omega)) R
 have m0 := fun R => qK6 (a0 := r) (k := 1) (by omega) (by omega) (by omega) (yJ (by omega)) R
 have k0 := fun R => qOc (a0 := r) (k := 1) (by omega) (by omega) (by omega) (yJ (by omega)) R
 simp only [beq_self_eq_true, decide_true, and_self] at e0 e1 e2
 rw [t1, t2, sS]
 refine Ev.succ ?_
 simp only [laws_FnExactShare.q9, laws_FnExactShare.q9.b, laws_FnExactShare.j1, laws_FnExactShare.j0, and_self]
 rw [t1, t2, sI, e0]
 refine Ev.neg (by simp) ?_
 rw [t1, e1]
 refine Ev.neg (by simp) ?_
 rw [t2, e2]
 refine Ev.neg (by simp) ?_
 rw [m1, m2]
 refine Ev.pos (by simp; omega) ?_
 rw [e0]
 refine Ev.neg (by simp) ?_
 rw [m0, k0]
 refine Ev.neg (by simp; omega) (Ev.neg (by simp) ?_)
 rw [t1, t2, sI, e0]
 refine Ev.neg (by simp) ?_
 rw [k0]
 exact Ev.neg (by simp; omega) (Ev.neg (by simp) (Ev.const hK))
end Go.Vsi
end
