/- What the told functions answer. No statement is proved here. -/
import Derived.Test.YtfmjhfijkdlidaaA1
set_option linter.unusedVariables false
set_option linter.unusedSimpArgs false
set_option synthInstance.maxSize 4096

section
namespace Go.Vsi
def Ev (P : Nat -> Prop) : Prop := ∃ N, ∀ n, N <= n -> P n
theorem Ev.succ {P : Nat -> Prop} : Ev (fun n => P (n + 1)) -> Ev P
 | ⟨N, h⟩ => ⟨N + 1, fun n hn => by obtain ⟨m, rfl⟩ : ∃ m, n = m + 1 := ⟨n - 1, by omega⟩; exact h m (by omega)⟩
theorem Ev.shift {P : Nat -> Prop} : Ev P -> Ev (fun n => P (n + 1))
 | ⟨N, h⟩ => ⟨N, fun n hn => h (n + 1) (by omega)⟩
theorem Ev.and {P Q : Nat -> Prop} : Ev P -> Ev Q -> Ev (fun n => P n /\ Q n)
 | ⟨N, h⟩, ⟨M, g⟩ => ⟨max N M, fun n hn => ⟨h n (by omega), g n (by omega)⟩⟩
theorem Ev.const {p : Prop} (h : p) : Ev (fun _ => p) := ⟨0, fun _ _ => h⟩
theorem Ev.grd {b : Bool} {P : Nat -> Prop} (hb : b = true) (h : Ev P) : Ev (fun n => grd b (P n)) := by
 subst hb; exact h
theorem Ev.ite {c : Prop} [Decidable c] {P Q : Nat -> Prop} (h1 : c -> Ev P) (h2 : ¬ c -> Ev Q) : Ev (fun n => if c then P n else Q n) := by
 by_cases h : c
 ·simp only [if_pos h]; exact h1 h
 ·simp only [if_neg h]; exact h2 h
theorem Ev.pos {c : Prop} [Decidable c] {P Q : Nat -> Prop} (h : c) (h1 : Ev P) : Ev (fun n => if c then P n else Q n) := by
 simp only [if_pos h]; exact h1
theorem Ev.neg {c : Prop} [Decidable c] {P Q : Nat -> Prop} (h : ¬ c) (h1 : Ev Q) : Ev (fun n => if c then P n else Q n) := by
 simp only [if_neg h]; exact h1
theorem Ev.some {P : Nat -> Prop} : Ev P -> ∃ n, P n
 | ⟨N, h⟩ => ⟨N, h N (Nat.le_refl _)⟩
theorem qC {x : Int} (h1 : -9223372036854775808 <= x) (h2 : x < 9223372036854775808) : IntKind.wrap .i64 x = x := by
 simp only [IntKind.wrap, IntKind.bits, IntKind.signed, Bool.true_and]
 split <;> simp_all <;> omega
theorem qI4 {x : Int} (h1 : 0 <= x) (h2 : x < 18446744073709551616) : IntKind.wrap .u64 x = x := by
 simp only [IntKind.wrap, IntKind.bits, IntKind.signed, Bool.false_and]
 simp; omega
theorem qNr (x : Int) : IntKind.wrap .u64 x = x % 18446744073709551616 := by
 simp only [IntKind.wrap, IntKind.bits, IntKind.signed, Bool.false_and]
 simp
theorem qNq (x : Int) : 0 <= IntKind.wrap .u64 x /\ IntKind.wrap .u64 x < 18446744073709551616 := by
 rw [qNr]; omega
theorem qI5 (x : Int) : -9223372036854775808 <= IntKind.wrap .i64 x /\ IntKind.wrap .i64 x < 9223372036854775808 := by
 simp only [IntKind.wrap, IntKind.bits, IntKind.signed, Bool.true_and]
 split <;> simp_all <;> omega
theorem qLc {x : Int} (h1 : 0 <= x) (h2 : x < 256) : IntKind.wrap .u8 x = x := by
 simp only [IntKind.wrap, IntKind.bits, IntKind.signed, Bool.false_and]
 simp; omega
theorem qFe {x m : Int} (h : 0 <= x) : Int.tdiv x m = x / m := Int.tdiv_eq_ediv_of_nonneg h
theorem qB7 {x m : Int} (h : 0 <= x) : Int.tmod x m = x % m := Int.tmod_eq_emod_of_nonneg h
theorem qM1 {x m : Int} (h : 0 <= m) : Int.fdiv x m = x / m := Int.fdiv_eq_ediv_of_nonneg x h
def W (ws : List Nat) : List Int := ws.map Int.ofNat
theorem qKO (ws : List Nat) : (W ws).length = ws.length := by simp [W]
theorem qP0 (ws : List Nat) (i : Nat) : rd (W ws) i = ((ws.getD i 0 : Nat) : Int) := by
 simp only [rd, W, List.getD_eq_getElem?_getD, List.getElem?_map]
 cases ws[i]? <;> rfl
def Below (m : Nat) (ws : List Nat) : Prop := ∀ x ∈ ws, x < m
theorem qP1 {m : Nat} : ∀ {l : List Int}, (∀ x ∈ l, 0 <= x /\ x < (m : Int)) -> ∃ ws, l = W ws /\ Below m ws
 | [], _ => ⟨[], rfl, by simp [Below]⟩
 | x :: l, h => by
  obtain ⟨ws, rfl, hb⟩ := qP1 (l := l) fun y hy => h y (by simp [hy])
  have hx := h x (by simp)
  refine ⟨x.toNat :: ws, ?_, ?_⟩
  ·simp only [W, List.map_cons, List.cons.injEq, and_true]
   show x = (x.toNat : Int); omega
  ·intro y hy
   simp only [List.mem_cons] at hy
   rcases hy with rfl | hy
   ·omega
   ·exact hb y hy
theorem Below.getD {m : Nat} {ws : List Nat} (h : Below m ws) (hm : 0 < m) (i : Nat) : ws.getD i 0 < m := by
 rw [List.getD_eq_getElem?_getD]
 cases hw : ws[i]? with
 | none => exact hm
 | some y => exact h y (List.mem_of_getElem? hw)
theorem Below.set {m : Nat} {ws : List Nat} (h : Below m ws) {i x : Nat} (hx : x < m) : Below m (ws.set i x) := by
 intro y hy
 rcases List.mem_or_eq_of_mem_set hy with h' | rfl
 ·exact h y h'
 ·exact hx
theorem Below.app {m : Nat} {a b : List Nat} (ha : Below m a) (hb : Below m b) : Below m (a ++ b) := by
 intro y hy
 rcases List.mem_append.mp hy with h | h
 ·exact ha y h
 ·exact hb y h
theorem Below.rep {m n : Nat} (hm : 0 < m) : Below m (List.replicate n 0) := by
 intro y hy
 rw [List.eq_of_mem_replicate hy]; exact hm
theorem qPF {a b : Nat} (ha : a < 18446744073709551616) (hb : b < 18446744073709551616) : qCW .and .u64 (a : Int) (b : Int) = ((a &&& b : Nat) : Int) := by
 have hab : a &&& b < 2 ^ 64 := Nat.and_lt_two_pow a hb
 show IntKind.wrap .u64 (((BitVec.ofInt 64 (a : Int) &&& BitVec.ofInt 64 (b : Int) : BitVec 64).toNat : Nat) : Int) = _
 rw [BitVec.toNat_and, BitVec.ofInt_natCast, BitVec.ofInt_natCast, BitVec.toNat_ofNat, BitVec.toNat_ofNat]
 rw [Nat.mod_eq_of_lt ha, Nat.mod_eq_of_lt hb]
 exact qI4 (by omega) (by omega)
theorem qMj (op : BinOp) (x y : Int) : 0 <= qCW op .u64 x y /\ qCW op .u64 x y < 18446744073709551616 := by
 cases op <;> first | exact qNq _ | (constructor <;> decide)
theorem qPz (a k : Nat) (hk : k <= 64) : Int.fdiv (a : Int) (2 ^ (Nat.min k 64)) = ((a >>> k : Nat) : Int) := by
 rw [qM1 (Int.le_of_lt (Int.pow_pos (by decide))), show Nat.min k 64 = k from Nat.min_eq_left hk, Nat.shiftRight_eq_div_pow]
 simp
def bit (ws : List Nat) (i : Nat) : Bool := (ws.getD (i / 64) 0).testBit (i % 64)
theorem qHa {ws : List Nat} {i : Nat} (h : 64 * ws.length <= i) : bit ws i = false := by
 have : ws.length <= i / 64 := by omega
 simp [bit, List.getD_eq_getElem?_getD, List.getElem?_eq_none this]
theorem Ev.suc {P : Nat -> Prop} : Ev P ↔ Ev (fun n => P (n + 1)) := ⟨Ev.shift, Ev.succ⟩
theorem Ev.s0 (R : Nat -> Prop) : Ev (fun n => R (n + 1)) ↔ Ev (fun n => R n) := ⟨Ev.succ, Ev.shift⟩
theorem Ev.s1 {α : Type} (R : Nat -> α -> Prop) (a : α) : Ev (fun n => R (n + 1) a) ↔ Ev (fun n => R n a) := Ev.s0 (fun n => R n a)
theorem Ev.s2 {α β : Type} (R : Nat -> α -> β -> Prop) (a : α) (b : β) : Ev (fun n => R (n + 1) a b) ↔ Ev (fun n => R n a b) := Ev.s0 (fun n => R n a b)
theorem Ev.s3 {α β γ : Type} (R : Nat -> α -> β -> γ -> Prop) (a : α) (b : β) (c : γ) : Ev (fun n => R (n + 1) a b c) ↔ Ev (fun n => R n a b c) := Ev.s0 (fun n => R n a b c)
theorem Ev.s4 {α β γ δ : Type} (R : Nat -> α -> β -> γ -> δ -> Prop) (a : α) (b : β) (c : γ) (d : δ) : Ev (fun n => R (n + 1) a b c d) ↔ Ev (fun n => R n a b c d) := Ev.s0 (fun n => R n a b c d)
theorem Ev.s5 {α β γ δ ε : Type} (R : Nat -> α -> β -> γ -> δ -> ε -> Prop) (a : α) (b : β) (c : γ) (d : δ) (e : ε) : Ev (fun n => R (n + 1) a b c d e) ↔ Ev (fun n => R n a b c d e) := Ev.s0 (fun n => R n a b c d e)
theorem Ev.s6 {α β γ δ ε ζ : Type} (R : Nat -> α -> β -> γ -> δ -> ε -> ζ -> Prop) (a : α) (b : β) (c : γ) (d : δ) (e : ε) (f : ζ) : Ev (fun n => R (n + 1) a b c d e f) ↔ Ev (fun n => R n a b c d e f) := Ev.s0 (fun n => R n a b c d e f)
theorem Ev.s7 {α β γ δ ε ζ η : Type} (R : Nat -> α -> β -> γ -> δ -> ε -> ζ -> η -> Prop) (a : α) (b : β) (c : γ) (d : δ) (e : ε) (f : ζ) (g : η) : Ev (fun n => R (n + 1) a b c d e f g) ↔ Ev (fun n => R n a b c d e f g) := Ev.s0 (fun n => R n a b c d e f g)
theorem Ev.s8 {α β γ δ ε ζ η θ : Type} (R : Nat -> α -> β -> γ -> δ -> ε -> ζ -> η -> θ -> Prop) (a : α) (b : β) (c : γ) (d : δ) (e : ε) (f : ζ) (g : η) (h : θ) : Ev (fun n => R (n + 1) a b c d e f g h) ↔ Ev (fun n => R n a b c d e f g h) := Ev.s0 (fun n => R n a b c d e f g h)
theorem Ev.s9 {α β γ δ ε ζ η θ ι : Type} (R : Nat -> α -> β -> γ -> δ -> ε -> ζ -> η -> θ -> ι -> Prop) (a : α) (b : β) (c : γ) (d : δ) (e : ε) (f : ζ) (g : η) (h : θ) (i : ι) : Ev (fun n => R (n + 1) a b c d e f g h i) ↔ Ev (fun n => R n a b c d e f g h i) := Ev.s0 (fun n => R n a b c d e f g h i)
theorem Ev.s10 {α β γ δ ε ζ η θ ι κ : Type} (R : Nat -> α -> β -> γ -> δ -> ε -> ζ -> η -> θ -> ι -> κ -> Prop) (a : α) (b : β) (c : γ) (d : δ) (e : ε) (f : ζ) (g : η) (h : θ) (i : ι) (j : κ) : Ev (fun n => R (n + 1) a b c d e f g h i j) ↔ Ev (fun n => R n a b c d e f g h i j) := Ev.s0 (fun n => R n a b c d e f g h i j)
@[simp] theorem Ev.k {p : Prop} : Ev (fun _ => p) ↔ p := ⟨fun ⟨_, h⟩ => h _ (Nat.le_refl _), Ev.const⟩
@[simp] theorem Ev.iteI {c : Prop} [Decidable c] {P Q : Nat -> Prop} : Ev (fun n => if c then P n else Q n) ↔ if c then Ev P else Ev Q := by
 by_cases h : c <;> simp only [h, if_true, if_false]
@[simp] theorem Ev.andI {P Q : Nat -> Prop} : Ev (fun n => P n /\ Q n) ↔ Ev P /\ Ev Q :=
 ⟨fun ⟨N, h⟩ => ⟨⟨N, fun n hn => (h n hn).1⟩, ⟨N, fun n hn => (h n hn).2⟩⟩, fun h => Ev.and h.1 h.2⟩
theorem qT {p : Prop} [Decidable p] {P : Prop} (h : p) : grd (decide p) P ↔ P := by rw [decide_eq_true h]; exact Iff.rfl
theorem qD {p q : Prop} [Decidable p] [Decidable q] {P : Prop} (h : p /\ q) : grd (decide p && decide q) P ↔ P := by rw [decide_eq_true h.1, decide_eq_true h.2]; exact Iff.rfl
theorem qA4 {p q r : Prop} [Decidable p] [Decidable q] [Decidable r] {P : Prop} (h : p /\ q /\ r) : grd (decide p && decide q && decide r) P ↔ P := by rw [decide_eq_true h.1, decide_eq_true h.2.1, decide_eq_true h.2.2]; exact Iff.rfl
@[simp] theorem qPt {P : Prop} : grd true P ↔ P := Iff.rfl
theorem qY {α : Type} {l : List α} {x : Int} (h : l.drop x.toNat = []) (h0 : 0 <= x) : (l.length : Int) <= x := by
 have := List.drop_eq_nil_iff.1 h; omega
theorem qQ {α : Type} [Inhabited α] {l ys : List α} {x : Int} {y : α} (h : l.drop x.toNat = y :: ys) (h0 : 0 <= x) :
  x < (l.length : Int) /\ rd l x.toNat = y /\ l.drop (x + 1).toNat = ys := by
 have hl : x.toNat < l.length := by
  rcases Nat.lt_or_ge x.toNat l.length with h' | h'
  ·exact h'
  ·rw [List.drop_eq_nil_of_le h'] at h; cases h
 refine ⟨by omega, ?_, ?_⟩
 ·have := List.getElem?_drop (xs := l) (i := x.toNat) (j := 0)
  rw [h] at this
  simp only [List.getElem?_cons_zero, Nat.add_zero] at this
  simp [rd, List.getD_eq_getElem?_getD, <- this]
 ·rw [show (x + 1).toNat = x.toNat + 1 from by omega, <- List.drop_drop, h]; rfl
theorem qCf {α : Type} {l : List α} {x : Int} {v : α} (h0 : 0 <= x) (hx : x < (l.length : Int)) : (l.set x.toNat v).take (x + 1).toNat = l.take x.toNat ++ [v] := by
 have e : (x + 1).toNat = x.toNat + 1 := by omega
 have hl : x.toNat < l.length := by omega
 rw [e, List.take_succ_eq_append_getElem (by simpa using hl), List.take_set_of_le (by omega)]
 simp
theorem qJx {α : Type} [Inhabited α] {l : List α} {i : Nat} {v : α} (h : i < l.length) : rd (l.set i v) i = v := by
 simp [rd, List.getD_eq_getElem?_getD, h]
theorem yF {α : Type} {R : Nat -> α -> Prop} {a b : α} (h : a = b) : Ev (fun n => R n a) ↔ Ev (fun n => R n b) := by rw [h]
theorem qKj {R : Nat -> Bool -> Prop} {b : Bool} : (if b = true then Ev (fun n => R n true) else Ev (fun n => R n false)) ↔ Ev (fun n => R n b) := by cases b <;> simp
def Gd : (t : Ty) -> t.T -> Prop
 | .int k, n => k.min <= n /\ n <= k.max
 | .str, s => s.length <= 9223372036854775807
 | .sl _ t, l => l.length <= 9223372036854775807 /\ ∀ y, y ∈ l -> Gd t y
 | .prod a b, p => Gd a p.1 /\ Gd b p.2
 | .bool, _ => True
 | .unit, _ => True
 | .ptr _ _, _ => True
def jA {α : Type} (p : α -> Bool) : List α -> Int -> Int
 | [], _ => -1
 | y :: r, x => if p y = true then x else jA p r (x + 1)
theorem yX {α : Type} {p : α -> Bool} : ∀ {l : List α} {x : Int}, 0 <= x -> jA p l x < 0 -> jA p l x = -1
 | [], x, _, _ => rfl
 | y :: l, x, h0, h => by
  rw [jA] at h ⊢
  split
  ·rename_i hp; rw [if_pos hp] at h; omega
  ·rename_i hp; rw [if_neg hp] at h; exact yX (by omega) h
theorem qAB {α : Type} {p : α -> Bool} : ∀ {l : List α} {x : Int}, 0 <= x -> decide (jA p l x >= 0) = l.any p
 | [], x, _ => by simp [jA]
 | y :: l, x, h0 => by
  rw [jA, List.any_cons]
  by_cases hp : p y = true
  ·simp [hp, h0]
  ·rw [if_neg hp, qAB (by omega)]
   simp only [Bool.not_eq_true] at hp
   simp [hp]
structure Ok (w : Int) (ws : List Nat) : Prop where
 lo : 1 <= w
 hi : w <= 4096
 len : (ws.length : Int) = (w + 63) / 64
 words : Below 18446744073709551616 ws
 top : ∀ i : Nat, w <= i -> bit ws i = false
def bl (w : Nat) (f : Nat -> Bool) : List Int := (List.range w).map fun i => ((f i).toNat : Int)
theorem xF (w : Nat) (f : Nat -> Bool) : (bl w f).length = w := by simp [bl]
theorem qLU {w : Nat} {f : Nat -> Bool} {i : Nat} (h : i < w) : rd (bl w f) i = ((f i).toNat : Int) := by
 rw [rd, List.getD_eq_getElem?_getD, bl, List.getElem?_map, List.getElem?_range h]; rfl
theorem qNP {w : Nat} {f g : Nat -> Bool} (h : ∀ i, i < w -> f i = g i) : bl w f = bl w g := by
 rw [bl, bl]; refine List.map_congr_left fun i hi => ?_
 rw [h i (List.mem_range.1 hi)]
theorem qPE {l : List Int} {w : Nat} {f : Nat -> Bool} (hl : l.length = w) (h : ∀ i, i < w -> rd l i = ((f i).toNat : Int)) : l = bl w f := by
 apply List.ext_getElem (by rw [hl, xF])
 intro i h1 h2
 have a := h i (by omega)
 have b := qLU (f := f) (show i < w by omega)
 rw [rd, List.getD_eq_getElem?_getD, List.getElem?_eq_getElem h1] at a
 rw [rd, List.getD_eq_getElem?_getD, List.getElem?_eq_getElem h2] at b
 simp only [Option.getD_some] at a b
 rw [a, b]
theorem qNQ (u v : Nat) (f g : Nat -> Bool) : bl u f ++ bl v g = bl (u + v) (fun i => if i < u then f i else g (i - u)) := by
 refine qPE (by simp [xF]) fun i hi => ?_
 rw [rd, List.getD_eq_getElem?_getD]
 by_cases h : i < u
 ·rw [List.getElem?_append_left (by rw [xF]; exact h), <- List.getD_eq_getElem?_getD]
  simp only [h, if_true]; exact qLU h
 ·rw [List.getElem?_append_right (by rw [xF]; omega), xF, <- List.getD_eq_getElem?_getD]
  simp only [h, if_false]; exact qLU (by omega)
theorem qNO (b : Bool) : [((b.toNat : Nat) : Int)] = bl 1 (fun _ => b) := rfl
theorem qM7 (f : Nat -> Bool) : bl 0 f = [] := rfl
theorem Ev.impI {p : Prop} {P : Nat -> Prop} : Ev (fun n => p -> P n) ↔ (p -> Ev P) := by
 by_cases h : p
 ·simp only [h, true_imp_iff]
 ·simp only [h, false_imp_iff, iff_true]; exact ⟨0, fun _ _ => trivial⟩
theorem qLO {l : List Int} (hl : l.length <= 1099511627776) (R : Nat -> List Int -> Prop) :
  Ev (fun n => Z30.c n l (R n)) ↔ Ev (fun n => R n l) := by
 refine Ev.suc.trans ?_
 simp (disch := (simp only [List.length_nil]; omega)) only [Z30.c, Z30.w, Ev.andI, Ev.impI, qT, List.nil_append, Ev.s1 R]
 constructor
 ·exact fun h => h.2
 ·refine fun h => ⟨fun e => ?_, h⟩
  rw [List.eq_nil_of_length_eq_zero e] at h; exact h
theorem qGk {a : Int} {l : List Int} (hl : l.length <= 1099511627776) (R : Nat -> Int -> List Int -> Prop) :
  Ev (fun n => Z8.c n a l (R n)) ↔ Ev (fun n => R n a l) := by
 refine Ev.suc.trans ?_
 simp (disch := omega) only [Z8.c, Z8.w, Ev.andI, and_self, qLO, Ev.s2 R]
def Wd (l : List Int) : Prop := ∀ x ∈ l, 0 <= x /\ x <= 18446744073709551615
def vA (w : Int) (l : List Int) : Bool := decide (1 <= w /\ w <= 4096 /\ (l.length : Int) = (w + 63) / 64 /\ (w % 64 = 0 \/ rd l (l.length - 1) / 2 ^ (w % 64).toNat = 0))
theorem qM9 {x j : Nat} : x / 2 ^ j % 2 = (x.testBit j).toNat := by
 rw [Nat.testBit, Nat.shiftRight_eq_div_pow, Nat.one_and_eq_mod_two]
 rcases Nat.mod_two_eq_zero_or_one (x / 2 ^ j) with h | h <;> simp [h]
theorem vK {a b c : Int} (R : Nat -> Bool -> Prop) : Ev (fun n => Z57.c n a b c (R n)) ↔ Ev (fun n => R n (decide (b <= a /\ a <= c))) := by
 refine Ev.suc.trans ?_
 simp only [Z57.c, Z57.w, Ev.iteI, decide_eq_true_eq, Ev.s1 R, ge_iff_le]
 split
 ·refine yF ?_; rw [decide_eq_decide]; omega
 ·refine yF ?_; symm; rw [decide_eq_false_iff_not]; omega
theorem vF {a b c : Int} (R : Nat -> Bool -> Prop) : Ev (fun n => Z15.c n a b c (R n)) ↔ Ev (fun n => R n (decide (b <= a /\ a <= c))) := by
 refine Ev.suc.trans ?_
 simp only [Z15.c, Z15.w, Ev.iteI, decide_eq_true_eq, Ev.s1 R, ge_iff_le]
 split
 ·refine yF ?_; rw [decide_eq_decide]; omega
 ·refine yF ?_; symm; rw [decide_eq_false_iff_not]; omega
theorem qGB {a : Int} (h0 : 0 <= a) (h1 : a <= 1000000000) (R : Nat -> Int -> Prop) : Ev (fun n => Z21.c n a (R n)) ↔ Ev (fun n => R n ((a + 63) / 64)) := by
 refine Ev.suc.trans ?_
 simp (disch := omega) only [Z21.c, Z21.w, qC, qFe, Ev.s1 R]
theorem qHW {ws : List Nat} (hw : Below 18446744073709551616 ws) {k : Nat} (hk : k < 64 * ws.length) (hl : ws.length <= 4096) {w : Int} (R : Nat -> Int -> Prop) :
  Ev (fun n => Z52.c n w (W ws) k (R n)) ↔ Ev (fun n => R n ((bit ws k).toNat : Int)) := by
 refine Ev.suc.trans ?_
 have e : qCW .and .u64 ((ws.getD (k / 64) 0 >>> (k % 64) : Nat) : Int) 1 = (((bit ws k).toNat : Nat) : Int) := by
  have hx : ws.getD (k / 64) 0 >>> (k % 64) < 18446744073709551616 := by
   rw [Nat.shiftRight_eq_div_pow]; exact Nat.lt_of_le_of_lt (Nat.div_le_self _ _) (hw.getD (by decide) _)
  rw [show (1 : Int) = ((1 : Nat) : Int) from rfl, qPF hx (by decide), Nat.and_one_is_mod, Nat.shiftRight_eq_div_pow, qM9]; rfl
 have e1 : Int.toNat ((k : Int) / 64) = k / 64 := by omega
 have e2 : Int.toNat ((k : Int) % 64) = k % 64 := by omega
 simp (disch := omega) only [Z52.c, Z52.w, qKO, qFe, qB7, qC, qI4, qD, qT, e1, e2, qP0, qPz, e]
 rw [qLc (by omega) (by cases bit ws k <;> simp), Ev.s1 R]
theorem qFm {ws : List Nat} (hw : Below 18446744073709551616 ws) (hl : ws.length <= 4096) {w : Int} : ∀ (m k : Nat), k + m = 64 * ws.length -> ∃ b : Bool, (b = true ↔ ∀ i, k <= i -> bit ws i = false) /\
  ∀ (Kx : Nat -> Prop) (Kr : Nat -> Bool -> Prop), (Ev (fun n => Z36.l4 n w (W ws) k (Kx n) (Kr n)) ↔ if b = true then Ev Kx else Ev (fun n => Kr n false))
 | 0, k, h => by
  refine ⟨true, ⟨fun _ i hi => qHa (by omega), fun _ => rfl⟩, fun Kx Kr => ?_⟩
  refine Ev.suc.trans ?_
  simp (disch := omega) only [Z36.l4, Z36.l4.b, qKO, qC, if_neg, decide_eq_true_eq, Ev.s0 Kx, if_true]
 | m + 1, k, h => by
  obtain ⟨b, hb, kk⟩ := qFm hw hl (w := w) m (k + 1) (by omega)
  refine ⟨b && !bit ws k, ?_, fun Kx Kr => ?_⟩
  ·simp only [Bool.and_eq_true, Bool.not_eq_true', hb]
   constructor
   ·rintro ⟨h1, h2⟩ i hi
    rcases Nat.lt_or_eq_of_le hi with h' | rfl
    ·exact h1 i h'
    ·exact h2
   ·exact fun h => ⟨fun i hi => h i (by omega), h k (Nat.le_refl _)⟩
  ·refine Ev.suc.trans ?_
   have e : ((k : Int) + 1) = ((k + 1 : Nat) : Int) := by omega
   simp (disch := omega) only [Z36.l4, Z36.l4.b, qKO, qC, if_pos, decide_eq_true_eq, qHW hw _ hl, Ev.iteI, Bool.not_eq_true', decide_eq_false_iff_not, e, kk, Ev.s0 Kx, Ev.s1 Kr]
   cases bit ws k <;> simp
theorem qHu {w : Int} {ws : List Nat} (hw : Below 18446744073709551616 ws) (h1 : 1 <= w) (h2 : (ws.length : Int) = (w + 63) / 64) (hr : w % 64 ≠ 0) :
  ws.getD (ws.length - 1) 0 >>> (w % 64).toNat = 0 ↔ ∀ i : Nat, w <= i -> bit ws i = false := by
 constructor
 ·intro h i hi
  by_cases ho : 64 * ws.length <= i
  ·exact qHa ho
  ·have e1 : i / 64 = ws.length - 1 := by omega
   have := congrArg (fun y => Nat.testBit y (i % 64 - (w % 64).toNat)) h
   simp only [Nat.testBit_shiftRight, Nat.zero_testBit] at this
   rw [show (w % 64).toNat + (i % 64 - (w % 64).toNat) = i % 64 from by omega] at this
   rw [bit, e1]; exact this
 ·intro h
  apply Nat.eq_of_testBit_eq
  intro j
  rw [Nat.testBit_shiftRight, Nat.zero_testBit]
  by_cases hj : (w % 64).toNat + j < 64
  ·have := h (64 * (ws.length - 1) + ((w % 64).toNat + j)) (by omega)
   rw [bit, show (64 * (ws.length - 1) + ((w % 64).toNat + j)) / 64 = ws.length - 1 from by omega, show (64 * (ws.length - 1) + ((w % 64).toNat + j)) % 64 = (w % 64).toNat + j from by omega] at this
   exact this
  ·exact Nat.testBit_lt_two_pow (Nat.lt_of_lt_of_le (hw.getD (by decide) _) (Nat.pow_le_pow_right (n := 2) (by decide) (Nat.not_lt.mp hj)))
theorem qIe {w : Int} {ws : List Nat} (hw : Below 18446744073709551616 ws) : vA w (W ws) = true ↔ 1 <= w /\ w <= 4096 /\ (ws.length : Int) = (w + 63) / 64 /\ ∀ i : Nat, w <= i -> bit ws i = false := by
 rw [vA, decide_eq_true_eq, qKO, qP0]
 refine ⟨fun ⟨h1, h2, h3, h4⟩ => ⟨h1, h2, h3, ?_⟩, fun ⟨h1, h2, h3, h4⟩ => ⟨h1, h2, h3, ?_⟩⟩
 ·by_cases h5 : w % 64 = 0
  ·exact fun i hi => qHa (by omega)
  ·rcases h4 with h4 | h4
   ·exact absurd h4 h5
   ·rw [<- qHu hw h1 h3 h5, Nat.shiftRight_eq_div_pow]
    exact_mod_cast h4
 ·by_cases h5 : w % 64 = 0
  ·exact Or.inl h5
  ·have := (qHu hw h1 h3 h5).2 h4
   rw [Nat.shiftRight_eq_div_pow] at this
   exact Or.inr (by exact_mod_cast this)
theorem Wd.of {l : List Int} (h : Wd l) : ∃ ws, l = W ws /\ Below 18446744073709551616 ws := qP1 fun x hx => ⟨(h x hx).1, by have := (h x hx).2; omega⟩
theorem qFn {w : Int} {l : List Int} (hw : Wd l) (R : Nat -> Bool -> Prop) : Ev (fun n => Z36.c n w l (R n)) ↔ Ev (fun n => R n (vA w l)) := by
 obtain ⟨ws, rfl, hB⟩ := hw.of
 have hiff := qIe (w := w) hB
 refine Ev.suc.trans ?_
 simp (disch := omega) only [Z36.c, Z36.w, vK, Ev.iteI, Bool.not_eq_false', Bool.not_eq_true', decide_eq_true_eq, decide_eq_false_iff_not, qKO]
 by_cases h1 : 1 <= w /\ w <= 4096
 ·rw [if_pos h1, qC (x := w + 63) (by omega) (by omega), qFe (by omega), qC (by omega) (by omega)]
  by_cases h2 : (ws.length : Int) = (w + 63) / 64
  ·obtain ⟨b, hb, kk⟩ := qFm hB (by omega) (w := w) (64 * ws.length - w.toNat) w.toNat (by omega)
   have e : ((w.toNat : Nat) : Int) = w := by omega
   rw [e] at kk
   rw [if_neg (by omega), kk, Ev.s1 R, Ev.s1 R]
   have : b = vA w (W ws) := by
    rw [Bool.eq_iff_iff, hb, hiff]
    exact ⟨fun h => ⟨h1.1, h1.2, h2, fun i hi => h i (by omega)⟩, fun h i hi => h.2.2.2 i (by omega)⟩
   rw [<- this]
   cases b <;> rfl
  ·rw [if_pos h2, Ev.s1 R]
   have : vA w (W ws) = false := by
    rw [Bool.eq_false_iff]; intro h; exact h2 (hiff.1 h).2.2.1
   rw [this]
 ·rw [if_neg h1, Ev.s1 R]
  have : vA w (W ws) = false := by
   rw [Bool.eq_false_iff]; intro h; exact h1 ⟨(hiff.1 h).1, (hiff.1 h).2.1⟩
  rw [this]
theorem qJ2 {w : Int} {l : List Int} (R : Nat -> Bool -> Prop) : Ev (fun n => Z0.c n w l (R n)) ↔ Ev (fun n => R n (vA w l)) := by
 refine Ev.suc.trans ?_
 simp only [Z0.c, Z0.w, vF, Ev.iteI, Ev.andI, Bool.not_eq_false', Bool.not_eq_true', decide_eq_true_eq, decide_eq_false_iff_not, Ev.s1 R, and_self]
 by_cases h1 : 1 <= w /\ w <= 4096
 ·rw [if_pos h1]
  simp (disch := omega) only [qGB, Ev.iteI, Bool.not_eq_true', decide_eq_false_iff_not, Ev.s1 R]
  by_cases h2 : (l.length : Int) = (w + 63) / 64
  ·rw [if_neg (by omega)]
   simp (disch := omega) only [Z0.j0, qB7, Ev.iteI, decide_eq_false_iff_not, qC, qD, qT, Ev.s1 R]
   by_cases h3 : w % 64 = 0
   ·rw [if_neg (by omega), show vA w l = true from by simp [vA, h1, h2, h3]]
   ·rw [if_pos h3]
    refine yF ?_
    have e1 : ((l.length : Int) - 1).toNat = l.length - 1 := by omega
    have e2 : Nat.min (w % 64).toNat 64 = (w % 64).toNat := Nat.min_eq_left (by omega)
    rw [e1, e2, qM1 (Int.le_of_lt (Int.pow_pos (by decide)))]
    simp [vA, h1, h2, h3]
  ·rw [if_pos h2, show vA w l = false from by simp [vA, h2]]
 ·rw [if_neg h1, show vA w l = false from by
   rw [Bool.eq_false_iff]; intro h; rw [vA, decide_eq_true_eq] at h; exact h1 ⟨h.1, h.2.1⟩]
theorem qF0 {l ys : List UInt8} {x : Int} {y : UInt8} (h : l.drop x.toNat = y :: ys) (h0 : 0 <= x) : x < (l.length : Int) /\ List.getD l x.toNat 0 = y /\ l.drop (x + 1).toNat = ys :=
 qQ h h0
def qMr (c : UInt8) : Bool := decide ((97 <= (c.toNat : Int) /\ (c.toNat : Int) <= 122) \/ (48 <= (c.toNat : Int) /\ (c.toNat : Int) <= 57))
def kR (s : List UInt8) : Bool := decide (1 <= s.length /\ s.length <= 12 /\ 97 <= ((List.getD s 0 0).toNat : Int) /\ ((List.getD s 0 0).toNat : Int) <= 122) && s.all qMr
theorem qFK {s : List UInt8} (hl : s.length <= 1099511627776) : ∀ (ys : List UInt8) (x : Int), s.drop x.toNat = ys -> 0 <= x -> ∀ (Kx : Nat -> Prop) (Kr : Nat -> Bool -> Prop),
  (Ev (fun n => Z17.l4 n s x (Kx n) (Kr n)) ↔ if ys.all qMr = true then Ev Kx else Ev (fun n => Kr n false))
 | [], x, h, h0, Kx, Kr => by
  have := qY h h0
  refine Ev.suc.trans ?_
  simp (disch := omega) only [Z17.l4, Z17.l4.b, if_neg, decide_eq_true_eq, Ev.s0 Kx, List.all_nil, if_true]
 | y :: ys, x, h, h0, Kx, Kr => by
  obtain ⟨e1, e2, e3⟩ := qF0 h h0
  refine Ev.suc.trans ?_
  simp (disch := omega) only [Z17.l4, Z17.l4.b, if_pos, decide_eq_true_eq, decide_eq_false_iff_not, qD, e2, qC, Ev.iteI, qFK hl ys (x + 1) e3, Ev.s0 Kx, Ev.s1 Kr, List.all_cons, Bool.and_eq_true]
  simp only [qMr, decide_eq_true_eq]
  (repeat' split) <;> first | rfl | (exfalso; omega) | (exfalso; simp_all; omega) | (simp_all; done)
theorem qFL {s : List UInt8} (R : Nat -> Bool -> Prop) : Ev (fun n => Z17.c n s (R n)) ↔ Ev (fun n => R n (kR s)) := by
 refine Ev.suc.trans ?_
 simp only [Z17.c, Z17.w, Ev.iteI, decide_eq_true_eq, decide_eq_false_iff_not, kR]
 by_cases h1 : 1 <= s.length /\ s.length <= 12
 ·rw [if_pos (by omega), if_pos (by omega)]
  simp (disch := omega) only [qT, Ev.iteI, qFK (by omega) s 0 rfl, Ev.s1 R, decide_eq_false_iff_not, decide_eq_true_eq]
  by_cases h2 : 97 <= ((List.getD s 0 0).toNat : Int) /\ ((List.getD s 0 0).toNat : Int) <= 122
  ·rw [if_pos (by omega), if_neg (by omega)]
   rw [show (decide (1 <= s.length /\ s.length <= 12 /\ 97 <= ((List.getD s 0 0).toNat : Int) /\ ((List.getD s 0 0).toNat : Int) <= 122)) = true from by rw [decide_eq_true_eq]; omega, Bool.true_and]
   exact qKj
  ·rw [show (decide (1 <= s.length /\ s.length <= 12 /\ 97 <= ((List.getD s 0 0).toNat : Int) /\ ((List.getD s 0 0).toNat : Int) <= 122)) = false from by rw [decide_eq_false_iff_not]; omega, Bool.false_and]
   split <;> (try split) <;> first | rfl | (exfalso; omega)
 ·rw [show (decide (1 <= s.length /\ s.length <= 12 /\ 97 <= ((List.getD s 0 0).toNat : Int) /\ ((List.getD s 0 0).toNat : Int) <= 122)) = false from by rw [decide_eq_false_iff_not]; omega, Bool.false_and, Ev.s1 R]
  split <;> (try split) <;> first | rfl | (exfalso; omega)
theorem qBv {a : Int} (R : Nat -> Bool -> Prop) : Ev (fun n => Z54.c n a (R n)) ↔ Ev (fun n => R n (decide (48 <= a /\ a <= 57))) := by
 refine Ev.suc.trans ?_
 simp only [Z54.c, Z54.w, Ev.iteI, decide_eq_true_eq, Ev.s1 R, ge_iff_le]
 split
 ·refine yF ?_; rw [decide_eq_decide]; omega
 ·refine yF ?_; symm; rw [decide_eq_false_iff_not]; omega
theorem qFW {s : List UInt8} (hl : s.length <= 1099511627776) : ∀ (ys : List UInt8) (x : Int), s.drop x.toNat = ys -> 0 <= x -> ∀ (Kx : Nat -> Prop) (Kr : Nat -> Bool -> Prop),
  (Ev (fun n => Z59.l4 n s x (Kx n) (Kr n)) ↔ if ys.all qMr = true then Ev Kx else Ev (fun n => Kr n false))
 | [], x, h, h0, Kx, Kr => by
  have := qY h h0
  refine Ev.suc.trans ?_
  simp (disch := omega) only [Z59.l4, Z59.l4.b, if_neg, decide_eq_true_eq, Ev.s0 Kx, List.all_nil, if_true]
 | y :: ys, x, h, h0, Kx, Kr => by
  obtain ⟨e1, e2, e3⟩ := qF0 h h0
  refine Ev.suc.trans ?_
  simp (disch := omega) only [Z59.l4, Z59.l4.b, if_pos, decide_eq_true_eq, decide_eq_false_iff_not, Bool.not_eq_true', qD, e2, qC, qBv, Ev.iteI, qFW hl ys (x + 1) e3, Ev.s0 Kx, Ev.s1 Kr, List.all_cons, Bool.and_eq_true]
  simp only [qMr, decide_eq_true_eq]
  (repeat' split) <;> first | rfl | (exfalso; omega) | (exfalso; simp_all; omega) | (simp_all; done)
theorem qCV {s : List UInt8} (R : Nat -> Bool -> Prop) : Ev (fun n => Z59.c n s (R n)) ↔ Ev (fun n => R n (kR s)) := by
 refine Ev.suc.trans ?_
 simp only [Z59.c, Z59.w, Ev.iteI, decide_eq_true_eq, decide_eq_false_iff_not, kR]
 by_cases h1 : 1 <= s.length /\ s.length <= 12
 ·rw [if_pos (by omega), if_pos (by omega)]
  simp (disch := omega) only [qT, qBv, Ev.iteI, qFW (by omega) s 0 rfl, Ev.s1 R, decide_eq_false_iff_not, decide_eq_true_eq]
  match s, h1 with
  | c :: r, h1 =>
   have e : (List.getD (c :: r) 0 0) = c := rfl
   rw [e]
   by_cases h2 : 48 <= (c.toNat : Int) /\ (c.toNat : Int) <= 57
   ·rw [if_pos h2, show (decide (1 <= (c :: r).length /\ (c :: r).length <= 12 /\ 97 <= (c.toNat : Int) /\ (c.toNat : Int) <= 122)) = false from by rw [decide_eq_false_iff_not]; omega, Bool.false_and]
   ·rw [if_neg h2]
    by_cases h3 : qMr c = true
    ·have : 97 <= (c.toNat : Int) /\ (c.toNat : Int) <= 122 := by
      rw [qMr, decide_eq_true_eq] at h3; omega
     rw [show (decide (1 <= (c :: r).length /\ (c :: r).length <= 12 /\ 97 <= (c.toNat : Int) /\ (c.toNat : Int) <= 122)) = true from by rw [decide_eq_true_eq]; omega, Bool.true_and]
     exact qKj
    ·rw [List.all_cons, if_neg (by simp [h3]), show qMr c = false from by simpa using h3, Bool.false_and, Bool.and_false]
  | [], h1 => simp at h1
 ·rw [show (decide (1 <= s.length /\ s.length <= 12 /\ 97 <= ((List.getD s 0 0).toNat : Int) /\ ((List.getD s 0 0).toNat : Int) <= 122)) = false from by rw [decide_eq_false_iff_not]; omega, Bool.false_and, Ev.s1 R]
  split <;> (try split) <;> first | rfl | (exfalso; omega)
theorem qGb {a : List UInt8} {b : Int} {z : List UInt8} (R : Nat -> Bool -> Prop) : Ev (fun n => Z14.c n a b z (R n)) ↔ Ev (fun n => R n (decide (a = z))) := by
 refine Ev.suc.trans ?_
 simp only [Z14.c, Z14.w, Ev.s1 R]
 refine yF ?_
 rw [Bool.eq_iff_iff]; simp
theorem qMu {l : List qB} {z : List UInt8} (hl : l.length <= 1099511627776) : ∀ (ys : List qB) (x : Int), l.drop x.toNat = ys -> 0 <= x ->
  ∀ (Kx : Nat -> Prop) (Kr : Nat -> Int -> Prop),
  (Ev (fun n => Z32.l2 n l z l.length x (Kx n) (Kr n)) ↔ if jA (fun y => decide (y.1 = z)) ys x < 0 then Ev Kx else Ev (fun n => Kr n (jA (fun y => decide (y.1 = z)) ys x)))
 | [], x, h, h0, Kx, Kr => by
  have := qY h h0
  rw [jA, if_pos (by decide)]
  refine Ev.suc.trans ?_
  simp (disch := omega) only [Z32.l2, Z32.l2.b, if_neg, decide_eq_true_eq, Ev.s0 Kx]
 | y :: ys, x, h, h0, Kx, Kr => by
  obtain ⟨e1, e2, e3⟩ := qQ h h0
  refine Ev.suc.trans ?_
  simp (disch := first | omega | omega) only [Z32.l2, Z32.l2.b, if_pos, decide_eq_true_eq, qD, e2, qC, Ev.s1 Kr, qGb, Ev.iteI]
  rw [qMu hl ys (x + 1) e3 (by omega), Ev.s0 Kx, Ev.s1 Kr]
  simp only [jA, decide_eq_true_eq]
  split
  ·rw [if_neg (by omega)]
  ·rfl
theorem qOY {l : List qB} {z : List UInt8} (hl : l.length <= 1099511627776) (R : Nat -> Int -> Prop) :
  Ev (fun n => Z32.c n l z (R n)) ↔ Ev (fun n => R n (jA (fun y => decide (y.1 = z)) l 0)) := by
 refine Ev.suc.trans ?_
 simp only [Z32.c, Z32.w]
 rw [qMu hl l 0 rfl (by omega), Ev.s1 R, Ev.s1 R]
 split
 ·rw [yX (by omega) ‹_›]
 ·rfl
theorem qC4 {l : List qB} {z : List UInt8} (hl : l.length <= 1099511627776) (R : Nat -> Int -> Prop) : Ev (fun n => Z13.c n l z (R n)) ↔ Ev (fun n => R n (jA (fun y => decide (y.1 = z)) l 0)) := by
 refine Ev.suc.trans ?_
 simp only [Z13.c, Z13.w]
 rw [qOY hl, Ev.s1 R]
def jW : List qB -> List qB -> Int -> Bool
 | _, [], t => decide (t <= 20000)
 | pre, y :: r, t => kR y.1 && decide (1 <= y.2 /\ y.2 <= 4096) && !(pre.any fun z => decide (z.1 = y.1)) && jW (pre ++ [y]) r (t + y.2)
def jL (l : List qB) : Bool := decide (l.length <= 60) && jW [] l 0
theorem qFf {α : Type} {l ys : List α} {x : Int} {y : α} (h : l.drop x.toNat = y :: ys) (h0 : 0 <= x) : l.take (x + 1).toNat = l.take x.toNat ++ [y] := by
 have hl : x.toNat < l.length := by
  rcases Nat.lt_or_ge x.toNat l.length with h' | h'
  ·exact h'
  ·rw [List.drop_eq_nil_of_le h'] at h; cases h
 rw [show (x + 1).toNat = x.toNat + 1 from by omega, List.take_succ_eq_append_getElem hl]
 congr 2
 have := List.getElem?_drop (xs := l) (i := x.toNat) (j := 0)
 rw [h] at this
 simp only [List.getElem?_cons_zero, Nat.add_zero, List.getElem?_eq_getElem hl, Option.some.injEq] at this
 exact this.symm
theorem qD5 {l : List qB} (hl : l.length <= 60) : ∀ (ys : List qB) (x t : Int), l.drop x.toNat = ys -> 0 <= x -> 0 <= t -> t <= 4096 * x -> ∀ (R : Nat -> Bool -> Prop),
  (Ev (fun n => Z2.l5 n l l l.length t x (fun y => R n (decide (y <= 20000))) (R n)) ↔ Ev (fun n => R n (jW (l.take x.toNat) ys t)))
 | [], x, t, h, h0, ht, ht', R => by
  have := qY h h0
  refine Ev.suc.trans ?_
  simp (disch := omega) only [Z2.l5, Z2.l5.b, if_neg, decide_eq_true_eq, Ev.s1 R, jW]
 | y :: ys, x, t, h, h0, ht, ht', R => by
  obtain ⟨e1, e2, e3⟩ := qQ h h0
  refine Ev.suc.trans ?_
  have hd : (List.drop 0 (List.take x.toNat l)).length <= 1099511627776 := by simp; omega
  simp (disch := omega) only [Z2.l5, Z2.l5.b, if_pos, decide_eq_true_eq, qD, e2, qFL, vF, Ev.iteI, Bool.not_eq_false', Ev.s1 R, jW]
  by_cases h1 : kR y.1 = true
  ·by_cases h2 : 1 <= y.2 /\ y.2 <= 4096
   ·rw [if_pos h1, if_pos h2]
    simp (disch := omega) only [qA4, qC4 hd, Ev.iteI, qC, ge_iff_le]
    rw [qD5 hl ys (x + 1) (t + y.2) e3 (by omega) (by omega) (by omega), Ev.s1 R, Ev.s1 R, qFf h h0]
    have e := qAB (p := fun z : qB => decide (z.1 = y.1)) (l := List.take x.toNat l) (x := 0) (by omega)
    rw [List.drop_zero]
    by_cases h3 : 0 <= jA (fun z : qB => decide (z.1 = y.1)) (List.take x.toNat l) 0
    ·rw [if_pos h3, <- e]; simp [h1, h2, h3]
    ·rw [if_neg h3, <- e]; simp [h1, h2, h3]
   ·rw [if_pos h1, if_neg h2]; simp [h1, h2]
  ·rw [if_neg h1]; simp [h1]
theorem qIT {l : List qB} (R : Nat -> Bool -> Prop) : Ev (fun n => Z2.c n l (R n)) ↔ Ev (fun n => R n (jL l)) := by
 refine Ev.suc.trans ?_
 simp only [Z2.c, Z2.w, Ev.iteI, decide_eq_true_eq, jL]
 by_cases h : l.length <= 60
 ·rw [if_neg (by omega), qD5 h l 0 0 rfl (by omega) (by omega) (by omega) (fun n => R (n + 1)), Ev.s1 R]
  simp [h]
 ·rw [if_pos (by omega), Ev.s1 R]; simp [h]
theorem qC2 {l : List qB} {t i : Int} {y : qB} (hl : l.length <= 60) (hi : rd l i.toNat = y) (hi0 : 0 <= i) (hi1 : i < (l.length : Int)) : ∀ (m : Nat) (k : Int), k + m = i -> 0 <= k -> ∀ (Kx : Nat -> List qB -> Int -> Int -> Prop) (Kr : Nat -> Bool -> Prop),
  (Ev (fun n => Z38.l10 n l t i k (Kx n) (Kr n)) ↔ if (((l.take i.toNat).drop k.toNat).any fun z => decide (z.1 = y.1)) = true then Ev (fun n => Kr n false) else Ev (fun n => Kx n l t i))
 | 0, k, h, h0, Kx, Kr => by
  refine Ev.suc.trans ?_
  simp (disch := omega) only [Z38.l10, Z38.l10.b, if_neg, decide_eq_true_eq, Ev.s3 Kx]
  rw [List.drop_eq_nil_of_le (by simp; omega)]
  simp
 | m + 1, k, h, h0, Kx, Kr => by
  refine Ev.suc.trans ?_
  have e : (l.take i.toNat).drop k.toNat = rd l k.toNat :: (l.take i.toNat).drop (k + 1).toNat := by
   have hk : k.toNat < (l.take i.toNat).length := by simp; omega
   rw [List.drop_eq_getElem_cons hk, show (k + 1).toNat = k.toNat + 1 from by omega]
   congr 1
   rw [List.getElem_take, rd, List.getD_eq_getElem?_getD, List.getElem?_eq_getElem (by omega)]; rfl
  simp (disch := omega) only [Z38.l10, Z38.l10.b, if_pos, decide_eq_true_eq, qD, hi, qC, Ev.iteI, beq_iff_eq, Ev.s1 Kr, e, List.any_cons, Bool.or_eq_true]
  rw [qC2 hl hi hi0 hi1 m (k + 1) (by omega) (by omega), Ev.s1 Kr, Ev.s3 Kx]
  (repeat' split) <;> first | rfl | (exfalso; simp_all; done)
theorem qC1 {l : List qB} (hl : l.length <= 60) : ∀ (ys : List qB) (x t : Int), l.drop x.toNat = ys -> 0 <= x -> 0 <= t -> t <= 4096 * x -> ∀ (R : Nat -> Bool -> Prop),
  (Ev (fun n => Z38.l5 n l t x (fun y => R n (decide (y <= 20000))) (R n)) ↔ Ev (fun n => R n (jW (l.take x.toNat) ys t)))
 | [], x, t, h, h0, ht, ht', R => by
  have := qY h h0
  refine Ev.suc.trans ?_
  simp (disch := omega) only [Z38.l5, Z38.l5.b, if_neg, decide_eq_true_eq, Ev.s1 R, jW]
 | y :: ys, x, t, h, h0, ht, ht', R => by
  obtain ⟨e1, e2, e3⟩ := qQ h h0
  refine Ev.suc.trans ?_
  simp (disch := omega) only [Z38.l5, Z38.l5.b, if_pos, decide_eq_true_eq, qD, e2, qCV, vK, Ev.iteI, Bool.not_eq_false', Bool.not_eq_true', decide_eq_false_iff_not, Ev.s1 R, jW, Z38.j3]
  by_cases h1 : kR y.1 = true
  ·by_cases h2 : 1 <= y.2 /\ y.2 <= 4096
   ·rw [if_pos h1, if_neg (by omega), qC2 hl e2 h0 e1 x.toNat 0 (by omega) (by omega), Ev.s1 R]
    simp (disch := omega) only [qD, e2, qC]
    rw [qC1 hl ys (x + 1) (t + y.2) e3 (by omega) (by omega) (by omega) (fun n => R (n + 1)), Ev.s1 R, qFf h h0, show (0 : Int).toNat = 0 from rfl, List.drop_zero]
    split
    ·rename_i h3; simp [h1, h2, h3]
    ·rename_i h3; simp only [Bool.not_eq_true] at h3; simp [h1, h2, h3]
   ·rw [if_pos h1, if_pos h2]; simp [h1, h2]
  ·rw [if_neg h1]; simp [h1]
theorem kW {l : List qB} (R : Nat -> Bool -> Prop) : Ev (fun n => Z38.c n l (R n)) ↔ Ev (fun n => R n (jL l)) := by
 refine Ev.suc.trans ?_
 simp only [Z38.c, Z38.w, Ev.iteI, decide_eq_true_eq, jL]
 by_cases h : l.length <= 60
 ·rw [if_neg (by omega), qC1 h l 0 0 rfl (by omega) (by omega) (by omega) (fun n => R (n + 1)), Ev.s1 R]
  simp [h]
 ·rw [if_pos (by omega), Ev.s1 R]; simp [h]
def yM (d : List qB) (x : qA) (kw : List Int) : Int :=
 if x.1 = 1 /\ kw.length = 0 /\ 0 <= x.2.1 /\ x.2.1 <= (d.length : Int) - 1 then (rd d x.2.1.toNat).2
 else if x.1 = 2 /\ kw.length = 0 /\ vA x.2.2.2.2.1 x.2.2.2.2.2.1 = true then x.2.2.2.2.1
 else if x.1 = 3 /\ 1 < kw.length then kw.sum
 else if kw.length ≠ 1 then -1
 else if x.1 = 4 /\ 0 <= x.2.2.2.1 /\ x.2.2.2.1 <= x.2.2.1 /\ x.2.2.1 < rd kw 0 then x.2.2.1 - x.2.2.2.1 + 1
 else if (x.1 = 5 \/ x.1 = 6) /\ 0 <= x.2.2.1 /\ x.2.2.1 <= 4096 then rd kw 0 + x.2.2.1
 else if (x.1 = 7 \/ x.1 = 8) /\ 0 <= x.2.2.1 /\ x.2.2.1 <= 4096 then rd kw 0
 else if x.1 = 9 /\ 1 <= x.2.2.1 /\ x.2.2.1 <= 4096 then rd kw 0 * x.2.2.1
 else -1
theorem qPX {a b : Int} (h1 : 0 <= a) (h2 : a <= 8192) (h3 : 0 <= b) (h4 : b <= 4096) : 0 <= a * b /\ a * b <= 33554432 :=
 ⟨Int.mul_nonneg h1 h3, Int.le_trans (Int.mul_le_mul h2 h4 h3 (by decide)) (by decide)⟩
theorem qHo {kw : List Int} (hl : kw.length <= 4096) (hk : ∀ w ∈ kw, 0 <= w /\ w <= 4096) : ∀ (ys : List Int) (x s : Int), kw.drop x.toNat = ys -> 0 <= x -> 0 <= s -> s <= 4096 * x -> ∀ (Kx : Nat -> Int -> Prop),
  (Ev (fun n => Z7.l11 n kw kw.length s x (Kx n)) ↔ Ev (fun n => Kx n (s + ys.sum)))
 | [], x, s, h, h0, hs, hs', Kx => by
  have := qY h h0
  refine Ev.suc.trans ?_
  simp (disch := omega) only [Z7.l11, Z7.l11.b, if_neg, decide_eq_true_eq, Ev.s1 Kx, List.sum_nil, Int.add_zero]
 | y :: ys, x, s, h, h0, hs, hs', Kx => by
  obtain ⟨e1, e2, e3⟩ := qQ h h0
  have hy : y ∈ kw := by
   have : y ∈ kw.drop x.toNat := by rw [h]; exact List.mem_cons_self
   exact List.mem_of_mem_drop this
  have hy' := hk y hy
  refine Ev.suc.trans ?_
  simp (disch := omega) only [Z7.l11, Z7.l11.b, if_pos, decide_eq_true_eq, qD, e2, qC]
  rw [qHo hl hk ys (x + 1) (s + y) e3 (by omega) (by omega) (by omega), Ev.s1 Kx]
  refine yF ?_
  rw [List.sum_cons]; omega
theorem qJa {x : qA} {f : Int} {b : Bool} (K : Nat -> Int -> Prop) (S : Nat -> Prop) :
  Ev (fun n => Z7.q21 n x f b (K n) (S n)) ↔ if b = true then Ev (fun n => K n (IntKind.wrap .i64 (f + x.2.2.1))) else
   if (x.1 = 7 \/ x.1 = 8) /\ 0 <= x.2.2.1 /\ x.2.2.1 <= 4096 then Ev (fun n => K n f) else if x.1 = 9 /\ 1 <= x.2.2.1 /\ x.2.2.1 <= 4096 then Ev (fun n => K n (IntKind.wrap .i64 (f * x.2.2.1))) else Ev S := by
 refine Ev.suc.trans ?_
 simp only [Z7.q21, Z7.q21.b, Z7.j0, vF, Ev.iteI, decide_eq_true_eq, decide_eq_false_iff_not, Ev.s1 K, Ev.s0 S, Bool.false_eq_true, if_false]
 (repeat' split) <;> first | rfl | (exfalso; omega)
theorem qLd {x : qA} {kw : List Int} {b : Bool} (hl : kw.length <= 4096) (hk : ∀ w ∈ kw, 0 <= w /\ w <= 4096) (hb : b = true ↔ x.1 = 3 /\ 1 < kw.length) (K : Nat -> Int -> Prop) (S : Nat -> Prop) :
  Ev (fun n => Z7.q9 n x kw (rd kw 0) b (K n) (S n)) ↔ if x.1 = 3 /\ 1 < kw.length then Ev (fun n => K n kw.sum) else if kw.length ≠ 1 then Ev (fun n => K n (-1)) else
   if x.1 = 4 /\ 0 <= x.2.2.2.1 /\ x.2.2.2.1 <= x.2.2.1 /\ x.2.2.1 < rd kw 0 then Ev (fun n => K n (x.2.2.1 - x.2.2.2.1 + 1))
   else if (x.1 = 5 \/ x.1 = 6) /\ 0 <= x.2.2.1 /\ x.2.2.1 <= 4096 then Ev (fun n => K n (rd kw 0 + x.2.2.1))
   else if (x.1 = 7 \/ x.1 = 8) /\ 0 <= x.2.2.1 /\ x.2.2.1 <= 4096 then Ev (fun n => K n (rd kw 0))
   else if x.1 = 9 /\ 1 <= x.2.2.1 /\ x.2.2.1 <= 4096 then Ev (fun n => K n (rd kw 0 * x.2.2.1)) else Ev S := by
 refine Ev.suc.trans ?_
 simp only [Z7.q9, Z7.q9.b, Z7.j1, Ev.iteI, hb]
 by_cases h3 : x.1 = 3 /\ 1 < kw.length
 ·rw [if_pos h3, if_pos h3, qHo hl hk kw 0 0 rfl (by omega) (by omega) (by omega), Ev.s1 K, Int.zero_add]
 rw [if_neg h3, if_neg h3]
 by_cases h1 : kw.length = 1
 ·have hf : 0 <= rd kw 0 /\ rd kw 0 <= 4096 := by
   match kw, h1, hk with
   | [w], _, hk => exact hk w List.mem_cons_self
  have h1' : (kw.length : Int) = 1 := by omega
  rw [if_neg (c := kw.length ≠ 1) (by omega)]
  simp only [h1', decide_true, Bool.not_true, Bool.false_eq_true, if_false]
  simp only [qJa, vF, Ev.iteI, decide_eq_true_eq, decide_eq_false_iff_not, Ev.s1 K, Ev.s0 S, Bool.false_eq_true, if_false, ge_iff_le]
  by_cases h4 : x.1 = 4
  ·simp only [h4, true_and, if_true, show ¬ (4 : Int) = 5 from by decide, show ¬ (4 : Int) = 6 from by decide, show ¬ (4 : Int) = 7 from by decide, show ¬ (4 : Int) = 8 from by decide, show ¬ (4 : Int) = 9 from by decide, or_self, false_and, if_false, not_false_eq_true]
   by_cases g1 : 0 <= x.2.2.2.1
   ·by_cases g2 : x.2.2.2.1 <= x.2.2.1
    ·by_cases g3 : x.2.2.1 < rd kw 0
     ·simp (disch := omega) only [g1, g2, g3, and_self, if_true, qC, decide_true]
     ·simp only [g1, g2, g3, and_false, if_true, if_false, decide_false, Bool.false_eq_true]
    ·simp only [g1, g2, false_and, and_false, if_true, if_false]
   ·simp only [g1, false_and, if_false]
  ·simp only [h4, false_and, if_false]
   by_cases h5 : (x.1 = 5 \/ x.1 = 6) /\ 0 <= x.2.2.1 /\ x.2.2.1 <= 4096
   ·have e : IntKind.wrap .i64 (rd kw 0 + x.2.2.1) = rd kw 0 + x.2.2.1 := qC (by omega) (by omega)
    rw [if_pos h5, e]
    rcases h5 with ⟨h5 | h5, h6⟩
    ·simp only [h5, h6, not_true, if_false, if_true, and_self]
    ·simp only [h5, h6, show ¬ (6 : Int) = 5 from by decide, not_false_eq_true, if_true, and_self]
   ·rw [if_neg h5]
    have e : 1 <= x.2.2.1 /\ x.2.2.1 <= 4096 -> IntKind.wrap .i64 (rd kw 0 * x.2.2.1) = rd kw 0 * x.2.2.1 := fun h => by
     have := qPX hf.1 (by omega) (show 0 <= x.2.2.1 by omega) h.2
     exact qC (by omega) (by omega)
    (repeat' split) <;> first | rfl | (exfalso; omega) | (exfalso; simp_all; done) | (rw [e (by omega)])
 ·have h1' : ¬ (kw.length : Int) = 1 := by omega
  simp only [h1, h1', ne_eq, not_false_eq_true, if_true, decide_false, Bool.not_false, Ev.s1 K]
theorem qEj {x : qA} {d : List qB} {kw : List Int} {b : Bool} (hl : kw.length <= 4096) (hk : ∀ w ∈ kw, 0 <= w /\ w <= 4096) (hb : b = true ↔ x.1 = 1 /\ kw.length = 0 /\ 0 <= x.2.1 /\ x.2.1 <= (d.length : Int) - 1) (R : Nat -> Int -> Prop) :
  Ev (fun n => Z7.q5 n x d kw (rd kw 0) b (R n) (R n (-1))) ↔ Ev (fun n => R n (yM d x kw)) := by
 refine Ev.suc.trans ?_
 simp only [Z7.q5, Z7.q5.b, Z7.j2, Ev.iteI, yM]
 by_cases h1 : x.1 = 1 /\ kw.length = 0 /\ 0 <= x.2.1 /\ x.2.1 <= (d.length : Int) - 1
 ·simp (disch := omega) only [hb.2 h1, if_true, qD, Ev.s1 R]
  rw [if_pos h1]
 have hb' : ¬ b = true := fun h => h1 (hb.1 h)
 rw [if_neg hb', if_neg h1]
 have q9 : ∀ (c : Bool), (c = true ↔ x.1 = 3 /\ 1 < kw.length) -> ((Ev fun n => Z7.q9 n x kw (rd kw 0) c (R (n + 1)) (R (n + 1) (-1))) ↔ Ev (fun n => R n (if x.1 = 3 /\ 1 < kw.length then kw.sum
   else if kw.length ≠ 1 then -1
   else if x.1 = 4 /\ 0 <= x.2.2.2.1 /\ x.2.2.2.1 <= x.2.2.1 /\ x.2.2.1 < rd kw 0 then x.2.2.1 - x.2.2.2.1 + 1
   else if (x.1 = 5 \/ x.1 = 6) /\ 0 <= x.2.2.1 /\ x.2.2.1 <= 4096 then rd kw 0 + x.2.2.1
   else if (x.1 = 7 \/ x.1 = 8) /\ 0 <= x.2.2.1 /\ x.2.2.1 <= 4096 then rd kw 0
   else if x.1 = 9 /\ 1 <= x.2.2.1 /\ x.2.2.1 <= 4096 then rd kw 0 * x.2.2.1
   else -1))) := fun c hc => by
  rw [qLd hl hk hc (fun n => R (n + 1)) (fun n => R (n + 1) (-1))]
  simp only [Ev.s1 R]
  (repeat' split) <;> first | rfl | (exfalso; omega)
 simp only [decide_eq_true_eq, Bool.false_eq_true, if_false, qJ2, Ev.iteI, Ev.s1 R]
 have f3 : ¬ (x.1 = 3 /\ 1 < kw.length) -> (false = true ↔ x.1 = 3 /\ 1 < kw.length) := fun h => iff_of_false Bool.false_ne_true h
 by_cases h2 : x.1 = 2
 ·have h3 : ¬ x.1 = 3 := by omega
  have h3' : ¬ (x.1 = 3 /\ 1 < kw.length) := by omega
  rw [if_pos h2]
  by_cases h4 : kw.length = 0
  ·have h4' : (kw.length : Int) = 0 := by omega
   rw [if_pos h4']
   by_cases h5 : vA x.2.2.2.2.1 x.2.2.2.2.2.1 = true
   ·rw [if_pos h5, if_pos ⟨h2, h4, h5⟩]
   ·rw [if_neg h5, if_neg h3, q9 false (f3 h3'), if_neg (c := x.1 = 2 /\ kw.length = 0 /\ vA x.2.2.2.2.1 x.2.2.2.2.2.1 = true) (fun h => h5 h.2.2)]
  ·have h4' : ¬ (kw.length : Int) = 0 := by omega
   rw [if_neg h4', if_neg h3, q9 false (f3 h3'), if_neg (c := x.1 = 2 /\ kw.length = 0 /\ vA x.2.2.2.2.1 x.2.2.2.2.2.1 = true) (fun h => h4 h.2.1)]
 ·rw [if_neg h2, if_neg (c := x.1 = 2 /\ kw.length = 0 /\ vA x.2.2.2.2.1 x.2.2.2.2.2.1 = true) (fun h => h2 h.1)]
  by_cases h3 : x.1 = 3
  ·rw [if_pos h3, q9 _ (by rw [decide_eq_true_eq]; omega)]
  ·rw [if_neg h3, q9 false (f3 (fun h => h3 h.1))]
theorem qLe {x : qA} {d : List qB} {kw : List Int} (hd : d.length <= 1099511627776) (hl : kw.length <= 4096) (hk : ∀ w ∈ kw, 0 <= w /\ w <= 4096) (R : Nat -> Int -> Prop) :
  Ev (fun n => Z7.c n x d kw (R n)) ↔ Ev (fun n => R n (yM d x kw)) := by
 refine Ev.suc.trans ?_
 have key : ∀ (f : Int), f = rd kw 0 -> ((Ev fun n => Z7.j3 (R (n + 1)) x d kw (Z7.q5 n) n f) ↔ Ev (fun n => R n (yM d x kw))) := by
  rintro f rfl
  simp (disch := omega) only [Z7.j3, Ev.iteI, decide_eq_true_eq, vF, qC]
  by_cases h1 : x.1 = 1
  ·by_cases h2 : (kw.length : Int) = 0
   ·rw [if_pos h1, if_pos h2, qEj hl hk (by rw [decide_eq_true_eq]; omega) (fun n => R (n + 1)), Ev.s1 R]
   ·rw [if_pos h1, if_neg h2, qEj hl hk (iff_of_false Bool.false_ne_true (by omega)) (fun n => R (n + 1)), Ev.s1 R]
  ·rw [if_neg h1, qEj hl hk (iff_of_false Bool.false_ne_true (by omega)) (fun n => R (n + 1)), Ev.s1 R]
 simp only [Z7.c, Z7.w, Ev.iteI, decide_eq_true_eq]
 by_cases h : (kw.length : Int) > 0
 ·rw [if_pos h]
  simp (disch := omega) only [qT]
  exact key _ rfl
 ·rw [if_neg h]
  refine key 0 ?_
  match kw, h with
  | [], _ => rfl
  | _ :: _, h => simp at h
def wS (x : qA) : Bool := decide (((4 <= x.1 /\ x.1 <= 9) \/ x.2.2.1 = 0) /\ (x.1 = 4 \/ x.2.2.2.1 = 0) /\ (x.1 = 1 \/ x.2.1 = 0) /\ (x.1 = 2 \/ (x.2.2.2.2.1 = 0 /\ x.2.2.2.2.2.1.length = 0)))
theorem qLr {x : qA} {b : Bool} (R : Nat -> Bool -> Prop) (S : Nat -> qA -> Prop) :
  Ev (fun n => Z6.q3 n x b (R n) (S n)) ↔ if b = true then Ev (fun n => R n false) else Ev (fun n => S n x) := by
 refine Ev.suc.trans ?_
 simp only [Z6.q3, Z6.q3.b, Ev.iteI, Ev.s1 R, Ev.s1 S]
theorem qHM {x : qA} {b : Bool} (hb : b = true ↔ (4 <= x.1 /\ x.1 <= 9)) (R : Nat -> Bool -> Prop) :
  Ev (fun n => Z6.q2 n x b (R n)) ↔ Ev (fun n => R n (wS x)) := by
 refine Ev.suc.trans ?_
 have hb' : b = false ↔ ¬ (4 <= x.1 /\ x.1 <= 9) := by rw [<- hb]; simp
 simp only [Z6.q2, Z6.q2.b, Z6.j0, qLr, Ev.iteI, Ev.s1 R, Bool.not_eq_true', Bool.not_eq_false', decide_eq_true_eq, decide_eq_false_iff_not, Bool.false_eq_true, if_false, if_true, hb']
 (repeat' split) <;> first
  | (refine yF ?_; symm; rw [wS, decide_eq_false_iff_not]; omega)
  | (refine yF ?_; symm; rw [wS, decide_eq_true_eq]; omega)
  | (refine yF ?_; rw [wS, decide_eq_decide]; omega)
theorem qLs {x : qA} (R : Nat -> Bool -> Prop) : Ev (fun n => Z6.c n x (R n)) ↔ Ev (fun n => R n (wS x)) := by
 refine Ev.suc.trans ?_
 simp only [Z6.c, Z6.w, Ev.iteI, decide_eq_true_eq, ge_iff_le]
 split
 ·rename_i h; rw [qHM (by rw [decide_eq_true_eq]; omega) (fun n => R (n + 1)), Ev.s1 R]
 ·rename_i h; rw [qHM (by simp; omega) (fun n => R (n + 1)), Ev.s1 R]
def zQ (i : Int) (ks : List Int) : Bool := ks.all fun k => decide (0 <= k /\ k <= i - 1)
theorem wC {i y : Int} {ys : List Int} : zQ i (y :: ys) = true ↔ (0 <= y /\ y <= i - 1) /\ zQ i ys = true := by
 rw [zQ, zQ, List.all_cons, Bool.and_eq_true, decide_eq_true_eq]
def wT (d : List qB) (x : qA) : Bool := decide ((x.1 = 1 /\ x.2.2.2.2.2.2.length = 0 /\ 0 <= x.2.1 /\ x.2.1 <= (d.length : Int) - 1) \/ (x.1 = 2 /\ x.2.2.2.2.2.2.length = 0 /\ vA x.2.2.2.2.1 x.2.2.2.2.2.1 = true) \/ (x.1 = 3 /\ 2 <= x.2.2.2.2.2.2.length) \/ (4 <= x.1 /\ x.1 <= 9 /\ x.2.2.2.2.2.2.length = 1))
theorem qJI {a : Int} {l : List Int} (R : Nat -> Bool -> Prop) : Ev (fun n => Z84.c n a l (R n)) ↔ Ev (fun n => R n (decide (a = 0 /\ l.length = 0))) := by
 refine Ev.suc.trans ?_
 simp only [Z84.c, Z84.w, Ev.iteI, decide_eq_true_eq, Ev.s1 R]
 split
 ·refine yF ?_; rw [decide_eq_decide]; omega
 ·refine yF ?_; symm; rw [decide_eq_false_iff_not]; omega
theorem qHV {a : Int} (R : Nat -> Bool -> Prop) : Ev (fun n => Z85.c n a (R n)) ↔ Ev (fun n => R n (decide (4 <= a /\ a <= 9))) := by
 refine Ev.suc.trans ?_
 simp only [Z85.c, Z85.w, vK, Ev.s1 R]
theorem qKa {d : List qB} {i a b c e f : Int} {w ks : List Int} (hl : ks.length <= 1099511627776) (hi0 : 0 <= i) (hi : i <= 1048576) : ∀ (ys : List Int) (x : Int), ks.drop x.toNat = ys -> 0 <= x ->
  ∀ (Kx : Nat -> List qB -> Int -> Int -> Int -> Int -> Int -> List Int -> List Int -> Prop) (Kr : Nat -> Bool -> Prop),
  (Ev (fun n => Z81.l2 n d i a b c e f w ks x (Kx n) (Kr n)) ↔ if zQ i ys = true then Ev (fun n => Kx n d a b c e f w ks) else Ev (fun n => Kr n false))
 | [], x, h, h0, Kx, Kr => by
  have := qY h h0
  refine Ev.suc.trans ?_
  simp (disch := omega) only [Z81.l2, Z81.l2.b, if_neg, decide_eq_true_eq, Ev.s8 Kx, zQ, List.all_nil, if_true]
 | y :: ys, x, h, h0, Kx, Kr => by
  obtain ⟨e1, e2, e3⟩ := qQ h h0
  refine Ev.suc.trans ?_
  simp (disch := omega) only [Z81.l2, Z81.l2.b, if_pos, decide_eq_true_eq, decide_eq_false_iff_not, Bool.not_eq_true', qD, e2, qC, vK, Ev.iteI, Ev.s1 Kr]
  rw [qKa hl hi0 hi ys (x + 1) e3 (by omega), Ev.s1 Kr, Ev.s8 Kx]
  simp only [wC]
  by_cases h1 : 0 <= y /\ y <= i - 1
  ·rw [if_neg (fun h => h h1)]
   simp only [h1, true_and, and_self]
  ·rw [if_pos h1, if_neg (fun h => h1 h.1)]
theorem qMV {d : List qB} {g : Bool} {a b c e f : Int} {w ks : List Int} (R : Nat -> Bool -> Prop) (S : Nat -> List qB -> Int -> Int -> Int -> Int -> Int -> List Int -> List Int -> Prop) :
  Ev (fun n => Z81.q7 n d g a b c e f w ks (R n) (S n)) ↔ if g = true then Ev (fun n => R n false) else Ev (fun n => S n d a b c e f w ks) := by
 refine Ev.suc.trans ?_
 simp only [Z81.q7, Z81.q7.b, Ev.iteI, Ev.s1 R, Ev.s8 S]
theorem qMU {d : List qB} {a b c e f : Int} {w ks : List Int} (hd : d.length <= 1099511627776) (hw : Wd w) (R : Nat -> Bool -> Prop) :
  Ev (fun n => Z81.q8 n d a b c e f w ks (R n)) ↔ Ev (fun n => R n (wT d (a, b, c, e, f, w, ks))) := by
 refine Ev.suc.trans ?_
 simp (disch := first | assumption | omega) only [Z81.q8, Z81.q8.b, Ev.iteI, decide_eq_true_eq, vK, qHV, qFn, qC, Ev.s1 R]
 have key : ∀ (b' : Bool), (b' = true ↔ wT d (a, b, c, e, f, w, ks) = true) -> ((Ev fun n => R n b') ↔ Ev fun n => R n (wT d (a, b, c, e, f, w, ks))) := fun b' h => by
  rw [Bool.eq_iff_iff.2 h]
 simp only [wT, decide_eq_true_eq] at key
 (repeat' split) <;> refine key _ ?_ <;> first
  | (simp only [decide_eq_true_eq, Bool.false_eq_true, false_iff]; omega)
  | (simp only [decide_eq_true_eq, Bool.false_eq_true, false_iff]; constructor <;> intro h <;> simp_all <;> omega)
  | (simp_all; done) | (simp_all; omega)
theorem qMW {d : List qB} {i a b c e f : Int} {w ks : List Int} (hd : d.length <= 1099511627776) (hw : Wd w) (hl : ks.length <= 1099511627776) (hi0 : 0 <= i) (hi : i <= 1048576) (R : Nat -> Bool -> Prop) :
  Ev (fun n => Z81.c n d a b c e f w ks i (R n)) ↔ Ev (fun n => R n (zQ i ks && wS (a, b, c, e, f, w, ks) && wT d (a, b, c, e, f, w, ks))) := by
 refine Ev.suc.trans ?_
 simp only [Z81.c, Z81.w]
 rw [qKa hl hi0 hi ks 0 rfl (by omega)]
 by_cases hk : zQ i ks = true
 ·rw [if_pos hk, hk, Bool.true_and]
  simp only [Ev.iteI, Bool.not_eq_true', Bool.not_eq_false', decide_eq_true_eq, decide_eq_false_iff_not, qJI, qHV, qMV, qMU hd hw, Ev.s1 R, Bool.false_eq_true, if_false, if_true]
  have T : wS (a, b, c, e, f, w, ks) = true -> ((Ev fun n => R n (wT d (a, b, c, e, f, w, ks))) ↔ Ev fun n => R n (wS (a, b, c, e, f, w, ks) && wT d (a, b, c, e, f, w, ks))) := fun h => by rw [h, Bool.true_and]
  have F : wS (a, b, c, e, f, w, ks) = false -> ((Ev fun n => R n false) ↔ Ev fun n => R n (wS (a, b, c, e, f, w, ks) && wT d (a, b, c, e, f, w, ks))) := fun h => by rw [h, Bool.false_and]
  simp only [wS, decide_eq_true_eq, decide_eq_false_iff_not] at T F
  (repeat' split) <;> first
   | (refine T ?_; omega)
   | (refine F ?_; omega)
 ·rw [if_neg hk, show zQ i ks = false from by simpa using hk, Bool.false_and, Bool.false_and, Ev.s1 R]
def WOk (l : List Int) : Prop := ∀ w ∈ l, 1 <= w /\ w <= 4096
theorem WOk.cons {y : Int} {r : List Int} (h : WOk (y :: r)) : (1 <= y /\ y <= 4096) /\ WOk r := ⟨h y List.mem_cons_self, fun w hw => h w (List.mem_cons_of_mem _ hw)⟩
def vZ (s : Int) : List Int -> Int
 | [] => s
 | y :: r => vZ (if s + y < 8192 then s + y else 8192) r
theorem qHw : ∀ {l : List Int}, WOk l -> (l.length : Int) <= l.sum
 | [], _ => by simp
 | y :: r, h => by
  have := qHw h.cons.2
  have := h.cons.1
  rw [List.sum_cons, List.length_cons]; omega
theorem qEa : ∀ {r : List Int}, WOk r -> vZ 8192 r = 8192
 | [], _ => rfl
 | y :: r, h => by
  have := h.cons.1
  rw [vZ, if_neg (by omega), qEa h.cons.2]
theorem qA9 : ∀ {l : List Int} {s : Int}, 0 <= s -> s <= 8192 -> WOk l -> vZ s l = if s + l.sum < 8192 then s + l.sum else 8192
 | [], s, h0, h1, hw => by
  rw [vZ, List.sum_nil]; split <;> omega
 | y :: r, s, h0, h1, hw => by
  have hy := hw.cons.1
  have hr := hw.cons.2
  have hs := qHw hr
  rw [vZ, List.sum_cons]
  by_cases h : s + y < 8192
  ·rw [if_pos h, qA9 (by omega) (by omega) hr]
   simp only [Int.add_assoc]
  ·rw [if_neg h, qEa hr, if_neg (by omega)]
def acc (w : Int) : Option Int := if 1 <= w /\ w <= 4096 then some w else none
def qAh (d : List qB) (x : qA) (s : Int) : Int :=
 if x.1 = 1 then (rd d x.2.1.toNat).2
 else if x.1 = 2 then x.2.2.2.2.1
 else if x.1 = 4 then (if x.2.2.2.1 < 0 \/ x.2.2.1 < x.2.2.2.1 \/ x.2.2.1 >= s then -1 else x.2.2.1 - x.2.2.2.1 + 1)
 else if x.1 = 5 \/ x.1 = 6 then (if 0 <= x.2.2.1 /\ x.2.2.1 <= 4096 then s + x.2.2.1 else -1)
 else if x.1 = 7 \/ x.1 = 8 then (if 0 <= x.2.2.1 /\ x.2.2.1 <= 4096 then s else -1)
 else if x.1 = 9 then (if 1 <= x.2.2.1 /\ x.2.2.1 <= 4096 then s * x.2.2.1 else -1)
 else s
theorem qLt {d : List qB} {x : qA} {w : Int} (h1 : 4 <= x.1) (h2 : x.1 <= 9) : yM d x [w] = qAh d x w := by
 have e : rd [w] 0 = w := rfl
 have e1 : [w].length = 1 := rfl
 rw [yM, e, e1, if_neg (by omega), if_neg (by omega), if_neg (by omega), if_neg (by omega), qAh, if_neg (c := x.1 = 1) (by omega), if_neg (c := x.1 = 2) (by omega)]
 have h : x.1 = 4 \/ x.1 = 5 \/ x.1 = 6 \/ x.1 = 7 \/ x.1 = 8 \/ x.1 = 9 := by omega
 rcases h with h | h | h | h | h | h
 ·rw [if_pos (c := x.1 = 4) h]
  by_cases c : 0 <= x.2.2.2.1 /\ x.2.2.2.1 <= x.2.2.1 /\ x.2.2.1 < w
  ·rw [if_pos ⟨h, c⟩, if_neg (by omega)]
  ·rw [if_neg (fun hh => c hh.2), if_neg (by omega), if_neg (by omega), if_neg (by omega), if_pos (by omega)]
 all_goals
  rw [if_neg (c := x.1 = 4) (by omega), if_neg (by omega)]
 ·rw [if_pos (c := x.1 = 5 \/ x.1 = 6) (by omega)]
  by_cases c : 0 <= x.2.2.1 /\ x.2.2.1 <= 4096
  ·rw [if_pos ⟨Or.inl h, c⟩, if_pos c]
  ·rw [if_neg (fun hh => c hh.2), if_neg (by omega), if_neg (by omega), if_neg c]
 ·rw [if_pos (c := x.1 = 5 \/ x.1 = 6) (by omega)]
  by_cases c : 0 <= x.2.2.1 /\ x.2.2.1 <= 4096
  ·rw [if_pos ⟨Or.inr h, c⟩, if_pos c]
  ·rw [if_neg (fun hh => c hh.2), if_neg (by omega), if_neg (by omega), if_neg c]
 ·rw [if_neg (c := x.1 = 5 \/ x.1 = 6) (by omega), if_neg (by omega), if_pos (c := x.1 = 7 \/ x.1 = 8) (by omega)]
  by_cases c : 0 <= x.2.2.1 /\ x.2.2.1 <= 4096
  ·rw [if_pos ⟨Or.inl h, c⟩, if_pos c]
  ·rw [if_neg (fun hh => c hh.2), if_neg (by omega), if_neg c]
 ·rw [if_neg (c := x.1 = 5 \/ x.1 = 6) (by omega), if_neg (by omega), if_pos (c := x.1 = 7 \/ x.1 = 8) (by omega)]
  by_cases c : 0 <= x.2.2.1 /\ x.2.2.1 <= 4096
  ·rw [if_pos ⟨Or.inr h, c⟩, if_pos c]
  ·rw [if_neg (fun hh => c hh.2), if_neg (by omega), if_neg c]
 ·rw [if_neg (c := x.1 = 5 \/ x.1 = 6) (by omega), if_neg (by omega), if_neg (by omega), if_neg (c := x.1 = 7 \/ x.1 = 8) (by omega), if_pos (c := x.1 = 9) h]
  by_cases c : 1 <= x.2.2.1 /\ x.2.2.1 <= 4096
  ·rw [if_pos ⟨h, c⟩, if_pos c]
  ·rw [if_neg (fun hh => c hh.2), if_neg c]
theorem qJl {d : List qB} {x : qA} {kw : List Int} (hw : WOk kw) (hl : kw.length = x.2.2.2.2.2.2.length) :
  (if x.2.2.2.2.2.2.length <= 4096 then acc (yM d x kw) else none) = if wT d x = true then acc (qAh d x (vZ 0 kw)) else none := by
 rw [<- hl]
 rw [qA9 (by omega) (by omega) hw, Int.zero_add]
 have hs := qHw hw
 by_cases hk : wT d x = true
 ·rw [if_pos hk]
  rw [wT, decide_eq_true_eq, <- hl] at hk
  rcases hk with ⟨h1, h2, h3, h4⟩ | ⟨h1, h2, h3⟩ | ⟨h1, h2⟩ | ⟨h1, h2, h3⟩
  ·rw [if_pos (by omega), yM, if_pos ⟨h1, h2, h3, h4⟩, qAh, if_pos h1]
  ·rw [if_pos (by omega), yM, if_neg (by omega), if_pos ⟨h1, h2, h3⟩, qAh, if_neg (by omega), if_pos h1]
  ·have hn : yM d x kw = kw.sum := by rw [yM, if_neg (by omega), if_neg (by omega), if_pos (by omega)]
   have hq : ∀ s, qAh d x s = s := fun s => by rw [qAh, if_neg (by omega), if_neg (by omega), if_neg (by omega), if_neg (by omega), if_neg (by omega), if_neg (by omega)]
   rw [hn, hq]
   unfold acc
   (repeat' split) <;> first | rfl | (exfalso; omega)
  ·rw [if_pos (by omega)]
   match kw, h3, hw with
   | [w], _, hw =>
    have h := hw w List.mem_cons_self
    have hs : (if [w].sum < 8192 then [w].sum else 8192) = w := by
     simp only [List.sum_cons, List.sum_nil, Int.add_zero]; rw [if_pos (by omega)]
    rw [hs]
    have hn := qLt (d := d) (x := x) (w := w) h1 h2
    rw [hn]
 ·rw [if_neg hk]
  rw [wT, decide_eq_true_eq, <- hl] at hk
  have : yM d x kw = -1 := by
   rw [yM, if_neg (by omega), if_neg (by rintro ⟨h1, h2, h3⟩; exact hk (Or.inr (Or.inl ⟨h1, h2, h3⟩))), if_neg (by omega)]
   by_cases h1 : kw.length ≠ 1
   ·rw [if_pos h1]
   ·rw [if_neg h1, if_neg (by omega), if_neg (by omega), if_neg (by omega), if_neg (by omega)]
  rw [this]
  split <;> rfl
def yH (d : List qB) (x : qA) (wide : List Int) : Option Int :=
 if zQ wide.length x.2.2.2.2.2.2 = true /\ wS x = true /\ wT d x = true then acc (qAh d x (vZ 0 (x.2.2.2.2.2.2.map fun k => rd wide k.toNat))) else none
def yA (u : List Bool) : List Int -> List Bool
 | [] => u
 | k :: r => yA (u.set k.toNat true) r
theorem xW : ∀ {ks : List Int} {u : List Bool}, (yA u ks).length = u.length
 | [], u => rfl
 | k :: r, u => by rw [yA, xW, List.length_set]
def jH (d : List qB) : List qA -> List Int -> List Bool -> Option (List Int × List Bool)
 | [], wide, used => some (wide, used)
 | x :: r, wide, used => match yH d x wide with
  | some w => jH d r (wide ++ [w]) (yA used x.2.2.2.2.2.2)
  | none => none
theorem qMa {l : List Int} {k : Int} (h0 : 0 <= k) (h1 : k < (l.length : Int)) : rd l k.toNat ∈ l := by
 rw [rd, List.getD_eq_getElem?_getD, List.getElem?_eq_getElem (by omega)]
 exact List.getElem_mem _
theorem qHK {α : Type} [Inhabited α] {a b : List α} {k : Nat} (h : k < a.length) : rd (a ++ b) k = rd a k := by
 rw [rd, rd, List.getD_eq_getElem?_getD, List.getD_eq_getElem?_getD, List.getElem?_append_left h]
theorem qCj {wide ks : List Int} (hw : WOk wide) (hk : zQ wide.length ks = true) : WOk (ks.map fun k => rd wide k.toNat) := by
 intro w hw'
 obtain ⟨k, hk', rfl⟩ := List.mem_map.1 hw'
 rw [zQ, List.all_eq_true] at hk
 have := hk k hk'
 rw [decide_eq_true_eq] at this
 exact hw _ (qMa this.1 (by omega))
theorem qIl {w v : Int} (h : acc w = some v) : v = w /\ 1 <= w /\ w <= 4096 := by
 unfold acc at h
 split at h
 ·rename_i hh; cases h; exact ⟨rfl, hh⟩
 ·cases h
theorem qHy {d : List qB} {x : qA} {wide : List Int} {w : Int} (h : yH d x wide = some w) : 1 <= w /\ w <= 4096 := by
 unfold yH at h
 split at h
 ·obtain ⟨rfl, h1⟩ := qIl h; exact h1
 ·cases h
theorem WOk.app {wide : List Int} {w : Int} (h : WOk wide) (hw : 1 <= w /\ w <= 4096) : WOk (wide ++ [w]) := by
 intro v hv
 rcases List.mem_append.1 hv with hv | hv
 ·exact h v hv
 ·rw [List.mem_singleton] at hv; subst hv; exact hw
theorem kL {d : List qB} : ∀ {ys : List qA} {wide : List Int} {used : List Bool} {r : List Int × List Bool}, WOk wide -> jH d ys wide used = some r -> WOk r.1 /\ r.1.length = wide.length + ys.length /\ r.2.length = used.length
 | [], wide, used, r, hw, h => by
  rw [jH] at h; cases h; exact ⟨hw, rfl, rfl⟩
 | x :: ys, wide, used, r, hw, h => by
  rw [jH] at h
  cases hs : yH d x wide with
  | none => rw [hs] at h; cases h
  | some w =>
   rw [hs] at h
   obtain ⟨h1, h2, h3⟩ := kL (hw.app (qHy hs)) h
   refine ⟨h1, ?_, ?_⟩
   ·rw [h2]; simp; omega
   ·rw [h3, xW]
theorem qJY {d : List qB} {m i a b : Int} {x : qA} {ks out : List Int} {nodes : List qA} (hl : ks.length <= 4096) (hi0 : 0 <= i) (hi : i <= (out.length : Int)) (hi' : i <= 1048576) : ∀ (ys : List Int) (j : Int) (used : List Bool) (kw : List Int), ks.drop j.toNat = ys -> 0 <= j -> i <= (used.length : Int) -> kw.length = ks.length ->
  ∀ (Kx : Nat -> List qB -> Int -> Int -> qA -> Int -> Int -> List Int -> List Bool -> List Int -> List qA -> Prop) (Kr : Nat -> Bool -> List Int -> Prop),
  (Ev (fun n => Z20.l13 n d m i x a b ks ks.length out nodes j used kw (Kx n) (Kr n)) ↔
   if zQ i ys = true then Ev (fun n => Kx n d m i x a b out (yA used ys) (kw.take j.toNat ++ ys.map fun k => rd out k.toNat) nodes) else Ev (fun n => Kr n false []))
 | [], j, used, kw, h, h0, hu, hkw, Kx, Kr => by
  have := qY h h0
  refine Ev.suc.trans ?_
  simp (disch := omega) only [Z20.l13, Z20.l13.b, if_neg, decide_eq_true_eq, Ev.s10 Kx, zQ, List.all_nil, if_true, yA, List.map_nil, List.append_nil]
  rw [List.take_of_length_le (by omega)]
 | y :: ys, j, used, kw, h, h0, hu, hkw, Kx, Kr => by
  obtain ⟨e1, e2, e3⟩ := qQ h h0
  refine Ev.suc.trans ?_
  simp (disch := omega) only [Z20.l13, Z20.l13.b, if_pos, decide_eq_true_eq, decide_eq_false_iff_not, Bool.not_eq_true', qD, e2, qC, vF, Ev.iteI, Ev.s2 Kr]
  by_cases h1 : 0 <= y /\ y <= i - 1
  ·rw [if_neg (fun h => h h1)]
   rw [qJY hl hi0 hi hi' ys (j + 1) _ _ e3 (by omega) (by simpa using hu) (by simpa using hkw), Ev.s10 Kx, Ev.s2 Kr, qCf (by omega) (by omega)]
   simp only [wC, h1, and_self, true_and, yA, List.map_cons, List.append_assoc, List.singleton_append]
  ·rw [if_pos h1, if_neg]
   rw [wC]
   exact fun h => h1 h.1
theorem qE7 {d : List qB} {t : List qA} (hd : d.length <= 1099511627776) (ht : t.length <= 400) : ∀ (ys : List qA) (wide z : List Int) (used : List Bool), t.drop wide.length = ys -> (wide ++ z).length = t.length -> used.length = t.length -> WOk wide ->
  ∀ (Kx : Nat -> Int -> List Int -> List Bool -> Prop) (Kr : Nat -> Bool -> List Int -> Prop),
  (Ev (fun n => Z20.l6 n d t.length t.length wide.length (wide ++ z) used t (Kx n) (Kr n)) ↔ match jH d ys wide used with
   | some r => Ev (fun n => Kx n t.length r.1 r.2)
   | none => Ev (fun n => Kr n false []))
 | [], wide, z, used, h, hz, hu, hw, Kx, Kr => by
  have hle := List.drop_eq_nil_iff.1 h
  have hz0 : z = [] := by
   rw [List.length_append] at hz
   exact List.eq_nil_of_length_eq_zero (by omega)
  subst hz0
  refine Ev.suc.trans ?_
  simp (disch := omega) only [Z20.l6, Z20.l6.b, if_neg, decide_eq_true_eq, Ev.s3 Kx, jH, List.append_nil]
 | x :: ys, wide, z, used, h, hz, hu, hw, Kx, Kr => by
  have h' : t.drop (wide.length : Int).toNat = x :: ys := h
  obtain ⟨e1, e2, e3⟩ := qQ h' (by omega)
  have e2' : rd t wide.length = x := e2
  rw [List.length_append] at hz
  refine Ev.suc.trans ?_
  simp (disch := omega) only [Z20.l6, Z20.l6.b, if_pos, decide_eq_true_eq, Ev.iteI, qD, Int.toNat_natCast, e2', Ev.s2 Kr]
  rw [jH]
  have hse := qJl (d := d) (x := x) (kw := x.2.2.2.2.2.2.map fun k => rd wide k.toNat)
  by_cases hk : x.2.2.2.2.2.2.length <= 4096
  ·rw [if_neg (by omega)]
   simp (disch := omega) only [qD, decide_true, Bool.and_true]
   rw [qJY hk (by omega) (by rw [List.length_append]; omega) (by omega) x.2.2.2.2.2.2 0 _ _ rfl (by omega) (by omega) (by simp), Ev.s2 Kr]
   by_cases hin : zQ wide.length x.2.2.2.2.2.2 = true
   ·rw [if_pos hin]
    have hwk := qCj hw hin
    have hmap : (x.2.2.2.2.2.2.map fun k => rd (wide ++ z) k.toNat) = x.2.2.2.2.2.2.map fun k => rd wide k.toNat := by
     apply List.map_congr_left
     intro k hk'
     rw [zQ, List.all_eq_true] at hin
     have := hin k hk'
     rw [decide_eq_true_eq] at this
     exact qHK (by omega)
    have hse := hse hwk (by simp)
    rw [if_pos hk] at hse
    simp only [Int.toNat_zero, List.take_zero, List.nil_append, hmap]
    simp (disch := first | assumption | (simp only [List.length_map, List.length_append, List.length_set]; omega) | omega) only [qLe hd (by simpa using hk) (fun w hw' => ⟨by have := hwk w hw'; omega, (hwk w hw').2⟩), qLs, Ev.iteI, Bool.not_eq_false', qD, qJx, Int.toNat_natCast, vF, Bool.not_eq_true', decide_eq_false_iff_not, qC, Ev.s2 Kr]
    by_cases hp : wS x = true
    ·rw [if_pos hp]
     have hst : yH d x wide = acc (yM d x (x.2.2.2.2.2.2.map fun k => rd wide k.toNat)) := by
      rw [hse, yH]
      by_cases hkb : wT d x = true
      ·rw [if_pos ⟨hin, hp, hkb⟩, if_pos hkb]
      ·rw [if_neg (fun h => hkb h.2.2), if_neg hkb]
     by_cases hacc : 1 <= yM d x (x.2.2.2.2.2.2.map fun k => rd wide k.toNat) /\ yM d x (x.2.2.2.2.2.2.map fun k => rd wide k.toNat) <= 4096
     ·rw [if_neg (fun h => h hacc)]
      rw [hst, acc, if_pos hacc]
      simp only []
      match z, hz with
      | [], hz => simp at hz; omega
      | v :: z, hz =>
       have es : (wide ++ v :: z).set wide.length (yM d x (x.2.2.2.2.2.2.map fun k => rd wide k.toNat)) = (wide ++ [yM d x (x.2.2.2.2.2.2.map fun k => rd wide k.toNat)]) ++ z := by
        rw [List.set_append_right _ _ (Nat.le_refl _), Nat.sub_self, List.set_cons_zero, List.append_assoc]; rfl
       rw [es]
       have el : ((wide.length : Int) + 1) = ((wide ++ [yM d x (x.2.2.2.2.2.2.map fun k => rd wide k.toNat)]).length : Int) := by simp
       rw [el, qE7 hd ht ys _ z _ (by rw [<- e3, List.length_append]; rfl) (by simp at hz ⊢; omega) (by rw [xW]; exact hu) (hw.app hacc)]
       cases jH d ys (wide ++ [yM d x (x.2.2.2.2.2.2.map fun k => rd wide k.toNat)]) (yA used x.2.2.2.2.2.2) with
       | none => exact Ev.s2 Kr _ _
       | some r => exact Ev.s3 Kx _ _ _
     ·rw [if_pos hacc, hst, acc, if_neg hacc]
    ·rw [if_neg hp, yH, if_neg (fun h => hp h.2.1)]
   ·rw [if_neg hin, yH, if_neg (fun h => hin h.1)]
  ·rw [if_pos (by omega)]
   have : yH d x wide = none := by
    unfold yH
    split
    ·rename_i hh
     have hse := hse (qCj hw hh.1) (by simp)
     rw [if_neg hk, if_pos hh.2.2] at hse
     exact hse.symm
    ·rfl
   rw [this]
theorem qMt {l : List Bool} {v : Bool} (hl : l.length <= 1099511627776) : ∀ (ys : List Bool) (x : Int), l.drop x.toNat = ys -> 0 <= x ->
  ∀ (Kx : Nat -> Prop) (Kr : Nat -> Int -> Prop),
  (Ev (fun n => Z33.l2 n l v l.length x (Kx n) (Kr n)) ↔ if jA (fun y => v == y) ys x < 0 then Ev Kx else Ev (fun n => Kr n (jA (fun y => v == y) ys x)))
 | [], x, h, h0, Kx, Kr => by
  have := qY h h0
  rw [jA, if_pos (by decide)]
  refine Ev.suc.trans ?_
  simp (disch := omega) only [Z33.l2, Z33.l2.b, if_neg, decide_eq_true_eq, Ev.s0 Kx]
 | y :: ys, x, h, h0, Kx, Kr => by
  obtain ⟨e1, e2, e3⟩ := qQ h h0
  refine Ev.suc.trans ?_
  simp (disch := first | omega | omega) only [Z33.l2, Z33.l2.b, if_pos, decide_eq_true_eq, qD, e2, qC, Ev.s1 Kr, Ev.s0 Kx, Ev.iteI]
  rw [qMt hl ys (x + 1) e3 (by omega), Ev.s0 Kx, Ev.s1 Kr]
  simp only [jA, decide_eq_true_eq]
  split
  ·rw [if_neg (by omega)]
  ·rfl
theorem qOW {l : List Bool} {v : Bool} (hl : l.length <= 1099511627776) (R : Nat -> Int -> Prop) :
  Ev (fun n => Z33.c n l v (R n)) ↔ Ev (fun n => R n (jA (fun y => v == y) l 0)) := by
 refine Ev.suc.trans ?_
 simp only [Z33.c, Z33.w]
 rw [qMt hl l 0 rfl (by omega), Ev.s1 R, Ev.s1 R]
 split
 ·rw [yX (by omega) ‹_›]
 ·rfl
theorem qO0 {l : List Bool} {v : Bool} (hl : l.length <= 1099511627776) (R : Nat -> Bool -> Prop) :
  Ev (fun n => Z31.c n l v (R n)) ↔ Ev (fun n => R n (l.any fun y => v == y)) := by
 refine Ev.suc.trans ?_
 simp only [Z31.c, Z31.w]
 rw [qOW hl, Ev.s1 R, qAB (by omega)]
theorem qKI (l : List Bool) : (!(l.any fun y => false == y)) = l.all id := by
 induction l with
 | nil => rfl
 | cons a l ih => rw [List.any_cons, List.all_cons, Bool.not_or, ih]; cases a <;> rfl
def zL (d : List qB) (t : List qA) : List Int × Bool :=
 if 1 <= t.length /\ t.length <= 400 then (match jH d t [] (List.replicate t.length false) with
  | some r => (r.1, (r.2.take (t.length - 1)).all id)
  | none => ([], false)) else ([], false)
theorem qDF {d : List qB} {t : List qA} (h : (zL d t).2 = true) : WOk (zL d t).1 /\ (zL d t).1.length = t.length /\ 1 <= t.length /\ t.length <= 400 := by
 unfold zL at h ⊢
 by_cases hl : 1 <= t.length /\ t.length <= 400
 ·rw [if_pos hl] at h ⊢
  cases hg : jH d t [] (List.replicate t.length false) with
  | none => rw [hg] at h; cases h
  | some r =>
   rw [hg] at h
   obtain ⟨h1, h2, h3⟩ := kL (fun w hw => by cases hw) hg
   exact ⟨h1, by simpa using h2, hl⟩
 ·rw [if_neg hl] at h; cases h
theorem qI9 {d : List qB} {t : List qA} (hd : d.length <= 1099511627776) (R : Nat -> List Int -> Bool -> Prop) :
  Ev (fun n => Z20.c n d t (R n)) ↔ Ev (fun n => R n (zL d t).1 (zL d t).2) := by
 refine Ev.suc.trans ?_
 simp only [Z20.c, Z20.w, Ev.iteI, decide_eq_true_eq, decide_eq_false_iff_not, Ev.s2 R, zL]
 by_cases hl : 1 <= t.length /\ t.length <= 400
 ·rw [if_pos (by omega), if_neg (by omega), if_pos hl]
  have lp := fun (Kx : Nat -> Int -> List Int -> List Bool -> Prop) (Kr : Nat -> Bool -> List Int -> Prop) => qE7 hd hl.2 t [] (List.replicate t.length 0) (List.replicate t.length false) rfl (by simp) (by simp) (fun w hw => by cases hw) Kx Kr
  simp only [List.length_nil, List.nil_append, Int.natCast_zero] at lp
  simp (disch := omega) only [Z20.j1, Z20.j0, qD, decide_true, Bool.and_true, and_self, Int.toNat_natCast]
  rw [lp]
  cases hg : jH d t [] (List.replicate t.length false) with
  | none => exact Ev.s2 R _ _
  | some r =>
   obtain ⟨h1, h2, h3⟩ := kL (fun w hw => by cases hw) hg
   rw [List.length_replicate] at h3
   simp (disch := omega) only [qC, qA4]
   rw [qO0 (by simp; omega), Ev.s2 R]
   rw [qKI, List.drop_zero, show ((t.length : Int) - 1).toNat = t.length - 1 from by omega]
 ·rw [if_neg hl]
  split
  ·rw [if_pos (by omega)]
  ·rfl
def zE (d : List qB) (t : List qA) : Int := if (zL d t).2 = true then rd (zL d t).1 (t.length - 1) else -1
theorem qJc {d : List qB} {t : List qA} (hd : d.length <= 1099511627776) (R : Nat -> Int -> Prop) :
  Ev (fun n => Z19.c n d t (R n)) ↔ Ev (fun n => R n (zE d t)) := by
 refine Ev.suc.trans ?_
 simp only [Z19.c, Z19.w, qI9 hd, Ev.iteI, Bool.not_eq_true', Ev.s1 R, zE]
 by_cases h : (zL d t).2 = true
 ·obtain ⟨h1, h2, h3, h4⟩ := qDF h
  rw [if_pos h, if_neg (by simp [h])]
  simp (disch := omega) only [qC, qD, Ev.s1 R]
  rw [show (((zL d t).1.length : Int) - 1).toNat = t.length - 1 from by omega]
 ·rw [if_neg h, if_pos (by simpa using h)]
def xH (d : List qB) (t : List qA) : Int := if jL d = true then zE d t else -1
theorem qHp {d : List qB} {wide : List Int} {a b c e f : Int} {w ks : List Int} (hl : ks.length <= 1099511627776) (hw : WOk wide) : ∀ (ys : List Int) (s x : Int), ks.drop x.toNat = ys -> 0 <= x -> 0 <= s -> s <= 8192 -> zQ wide.length ys = true ->
  ∀ (Kx : Nat -> List qB -> Int -> Int -> Int -> Int -> Int -> Int -> List Int -> List Int -> Prop),
  (Ev (fun n => Z92.l3 n d wide a b c e f w ks s x (Kx n)) ↔ Ev (fun n => Kx n d (vZ s (ys.map fun k => rd wide k.toNat)) a b c e f w ks))
 | [], s, x, h, h0, hs, hs', hk, Kx => by
  have := qY h h0
  refine Ev.suc.trans ?_
  simp (disch := omega) only [Z92.l3, Z92.l3.b, if_neg, decide_eq_true_eq, Ev.s9 Kx, List.map_nil, vZ]
 | y :: ys, s, x, h, h0, hs, hs', hk, Kx => by
  obtain ⟨e1, e2, e3⟩ := qQ h h0
  rw [wC] at hk
  have hy := hw _ (qMa hk.1.1 (show y < (wide.length : Int) by omega))
  refine Ev.suc.trans ?_
  simp (disch := omega) only [Z92.l3, Z92.l3.b, if_pos, decide_eq_true_eq, qD, e2, qC]
  rw [qHp hl hw ys _ (x + 1) e3 (by omega) (by split <;> omega) (by split <;> omega) hk.2, Ev.s9 Kx, List.map_cons, vZ]
theorem qLf {d : List qB} {wide : List Int} {a b c e f : Int} {w ks : List Int} (hd : d.length <= 1099511627776) (hl : ks.length <= 1099511627776) (hw : WOk wide) (hk : zQ wide.length ks = true) (hkb : wT d (a, b, c, e, f, w, ks) = true) (R : Nat -> Int -> Prop) :
  Ev (fun n => Z92.c n d a b c e f w ks wide (R n)) ↔ Ev (fun n => R n (qAh d (a, b, c, e, f, w, ks) (vZ 0 (ks.map fun k => rd wide k.toNat)))) := by
 refine Ev.suc.trans ?_
 simp only [Z92.c, Z92.w]
 rw [qHp hl hw ks 0 0 rfl (by omega) (by omega) (by omega) hk]
 have hs : 0 <= vZ 0 (ks.map fun k => rd wide k.toNat) /\ vZ 0 (ks.map fun k => rd wide k.toNat) <= 8192 := by
  have hwk := qCj hw hk
  have := qHw hwk
  rw [qA9 (by omega) (by omega) hwk]
  split <;> omega
 generalize vZ 0 (ks.map fun k => rd wide k.toNat) = s at hs
 rw [wT, decide_eq_true_eq] at hkb
 simp only [] at hkb
 simp only [Z92.j2, Z92.j3, Ev.iteI, decide_eq_true_eq, decide_eq_false_iff_not, Bool.not_eq_true', vK, Ev.s1 R, if_true]
 rw [qAh]
 simp only []
 by_cases h1 : a = 1
 ·rw [if_pos h1, if_pos h1]
  simp (disch := omega) only [qD, Ev.s1 R]
 rw [if_neg h1, if_neg h1]
 by_cases h2 : a = 2
 ·rw [if_pos h2, if_pos h2]
 rw [if_neg h2, if_neg h2]
 by_cases h4 : a = 4
 ·rw [if_pos h4, if_pos h4]
  by_cases g1 : e < 0
  ·rw [if_neg (by omega), if_pos (Or.inl g1)]
  rw [if_pos g1]
  by_cases g2 : c < e
  ·rw [if_neg (by omega), if_pos (Or.inr (Or.inl g2))]
  rw [if_pos g2]
  by_cases g3 : c >= s
  ·rw [if_pos g3, if_pos (Or.inr (Or.inr g3))]
  rw [if_neg g3, if_neg (by omega), qC (x := c - e) (by omega) (by omega), qC (by omega) (by omega)]
 rw [if_neg h4, if_neg h4]
 have hm : 1 <= c /\ c <= 4096 -> IntKind.wrap .i64 (s * c) = s * c := fun h => by
  have := qPX hs.1 hs.2 (show 0 <= c by omega) h.2
  exact qC (by omega) (by omega)
 have hp : 0 <= c /\ c <= 4096 -> IntKind.wrap .i64 (s + c) = s + c := fun h => qC (by omega) (by omega)
 have key56 : (if ¬ (0 <= c /\ c <= 4096) then Ev fun n => R n (-1) else Ev fun n => R n (IntKind.wrap .i64 (s + c))) ↔ Ev fun n => R n (if 0 <= c /\ c <= 4096 then s + c else -1) := by
  by_cases g : 0 <= c /\ c <= 4096
  ·rw [if_neg (fun h => h g), if_pos g, hp g]
  ·rw [if_pos g, if_neg g]
 have key78 : (if ¬ (0 <= c /\ c <= 4096) then Ev fun n => R n (-1) else Ev fun n => R n s) ↔ Ev fun n => R n (if 0 <= c /\ c <= 4096 then s else -1) := by
  by_cases g : 0 <= c /\ c <= 4096
  ·rw [if_neg (fun h => h g), if_pos g]
  ·rw [if_pos g, if_neg g]
 have key9 : (if ¬ (1 <= c /\ c <= 4096) then Ev fun n => R n (-1) else Ev fun n => R n (IntKind.wrap .i64 (s * c))) ↔ Ev fun n => R n (if 1 <= c /\ c <= 4096 then s * c else -1) := by
  by_cases g : 1 <= c /\ c <= 4096
  ·rw [if_neg (fun h => h g), if_pos g, hm g]
  ·rw [if_pos g, if_neg g]
 by_cases h5 : a = 5
 ·rw [if_pos h5, if_pos (Or.inl h5)]; exact key56
 rw [if_neg h5]
 by_cases h6 : a = 6
 ·rw [if_pos h6, if_pos (Or.inr h6)]; exact key56
 rw [if_neg h6, if_neg (show ¬ (a = 5 \/ a = 6) by omega)]
 by_cases h7 : a = 7
 ·rw [if_pos h7, if_pos (Or.inl h7)]; exact key78
 rw [if_neg h7]
 by_cases h8 : a = 8
 ·rw [if_pos h8, if_pos (Or.inr h8)]; exact key78
 rw [if_neg h8, if_neg (show ¬ (a = 7 \/ a = 8) by omega)]
 by_cases h9 : a = 9
 ·rw [if_pos h9, if_pos h9]; exact key9
 rw [if_neg h9, if_neg h9]
theorem qHr {d : List qB} {i : Int} {o wide : List Int} {t : List qA} {x : qA} (hi0 : 0 <= i) (hi : i < (t.length : Int)) (hx : rd t i.toNat = x) (hl : x.2.2.2.2.2.2.length <= 1099511627776) : ∀ (ys : List Int) (j : Int) (used : List Bool), x.2.2.2.2.2.2.drop j.toNat = ys -> 0 <= j -> used.length = t.length -> zQ i ys = true ->
  ∀ (Kx : Nat -> List qB -> Int -> List Int -> List Bool -> List Int -> List qA -> Prop),
  (Ev (fun n => Z93.l16 n d i o wide t j used (Kx n)) ↔ Ev (fun n => Kx n d i o (yA used ys) wide t))
 | [], j, used, h, h0, hu, hk, Kx => by
  have := qY h h0
  refine Ev.suc.trans ?_
  simp (disch := omega) only [Z93.l16, Z93.l16.b, qD, hx, if_neg, decide_eq_true_eq, Ev.s6 Kx, yA]
 | y :: ys, j, used, h, h0, hu, hk, Kx => by
  obtain ⟨e1, e2, e3⟩ := qQ h h0
  rw [wC] at hk
  refine Ev.suc.trans ?_
  simp (disch := omega) only [Z93.l16, Z93.l16.b, qD, hx, if_pos, decide_eq_true_eq, e2, qC]
  rw [qHr hi0 hi hx hl ys (j + 1) _ e3 (by omega) (by simpa using hu) hk.2, Ev.s6 Kx, yA]
theorem qDE {d : List qB} {t : List qA} (hd : d.length <= 1099511627776) (ht : t.length <= 400) (hg : ∀ x : qA, x ∈ t -> Wd x.2.2.2.2.2.1 /\ x.2.2.2.2.2.2.length <= 1099511627776) : ∀ (ys : List qA) (wide : List Int) (used : List Bool), t.drop wide.length = ys -> (∀ x : qA, x ∈ ys -> Wd x.2.2.2.2.2.1 /\ x.2.2.2.2.2.2.length <= 1099511627776) -> used.length = t.length -> WOk wide ->
  ∀ (Kx : Nat -> List Int -> List Int -> List Bool -> Prop) (Kr : Nat -> List Int -> Prop),
  (Ev (fun n => Z93.l7 n d wide.length wide [] used t (Kx n) (Kr n)) ↔ match jH d ys wide used with
   | some r => Ev (fun n => Kx n r.1 [] r.2)
   | none => Ev (fun n => Kr n []))
 | [], wide, used, h, hy, hu, hw, Kx, Kr => by
  have hle := List.drop_eq_nil_iff.1 h
  refine Ev.suc.trans ?_
  simp (disch := omega) only [Z93.l7, Z93.l7.b, if_neg, decide_eq_true_eq, Ev.s3 Kx, jH]
 | x :: ys, wide, used, h, hy, hu, hw, Kx, Kr => by
  have h' : t.drop (wide.length : Int).toNat = x :: ys := h
  obtain ⟨e1, e2, e3⟩ := qQ h' (by omega)
  have e2' : rd t wide.length = x := e2
  have hx := hy x List.mem_cons_self
  refine Ev.suc.trans ?_
  simp (disch := first | exact hx.1 | exact hx.2 | omega) only [Z93.l7, Z93.l7.b, if_pos, decide_eq_true_eq, Ev.iteI, qD, Int.toNat_natCast, e2', Ev.s1 Kr, qMW, Bool.not_eq_true']
  rw [jH]
  by_cases hf : zQ wide.length x.2.2.2.2.2.2 = true /\ wS x = true /\ wT d x = true
  ·obtain ⟨f1, f2, f3⟩ := hf
   have e : (zQ (wide.length : Int) x.2.2.2.2.2.2 && wS (x.1, x.2.1, x.2.2.1, x.2.2.2.1, x.2.2.2.2.1, x.2.2.2.2.2.1, x.2.2.2.2.2.2) && wT d (x.1, x.2.1, x.2.2.1, x.2.2.2.1, x.2.2.2.2.1, x.2.2.2.2.2.1, x.2.2.2.2.2.2)) = true := by
    rw [f1, show wS (x.1, x.2.1, x.2.2.1, x.2.2.2.1, x.2.2.2.2.1, x.2.2.2.2.2.1, x.2.2.2.2.2.2) = true from f2, show wT d (x.1, x.2.1, x.2.2.1, x.2.2.2.1, x.2.2.2.2.1, x.2.2.2.2.2.1, x.2.2.2.2.2.2) = true from f3]; rfl
   rw [e, if_neg (by decide)]
   have hwi := fun (R : Nat -> Int -> Prop) => qLf (wide := wide) hd hx.2 hw f1 f3 R
   simp (disch := omega) only [hwi, vK, Ev.iteI, Bool.not_eq_true', decide_eq_false_iff_not, Ev.s1 Kr, qT]
   have hst : yH d x wide = acc (qAh d x (vZ 0 (x.2.2.2.2.2.2.map fun k => rd wide k.toNat))) := by
    rw [yH, if_pos ⟨f1, f2, f3⟩]
   rw [hst]
   generalize hv : qAh d x (vZ 0 (x.2.2.2.2.2.2.map fun k => rd wide k.toNat)) = v
   by_cases hacc : 1 <= v /\ v <= 4096
   ·rw [if_neg (fun h => h hacc), acc, if_pos hacc]
    simp only []
    simp (disch := (simp only [List.length_cons, List.length_nil]; omega)) only [qT]
    rw [qHr (by omega) e1 e2 hx.2 _ 0 used rfl (by omega) hu f1]
    have el : IntKind.wrap .i64 ((wide.length : Int) + 1) = ((wide ++ [v]).length : Int) := by
     rw [qC (by omega) (by omega)]; simp
    rw [el, qDE hd ht hg ys (wide ++ [v]) _ (by rw [<- e3, List.length_append]; rfl) (fun x hx' => hy x (List.mem_cons_of_mem _ hx')) (by rw [xW]; exact hu) (hw.app hacc)]
    simp only [Int.toNat_zero, List.drop_zero]
    cases jH d ys (wide ++ [v]) (yA used x.2.2.2.2.2.2) with
    | none => exact Ev.s1 Kr _
    | some r => exact Ev.s3 Kx _ _ _
   ·rw [if_pos hacc, acc, if_neg hacc]
  ·have e : (zQ (wide.length : Int) x.2.2.2.2.2.2 && wS (x.1, x.2.1, x.2.2.1, x.2.2.2.1, x.2.2.2.2.1, x.2.2.2.2.2.1, x.2.2.2.2.2.2) && wT d (x.1, x.2.1, x.2.2.1, x.2.2.2.1, x.2.2.2.2.1, x.2.2.2.2.2.1, x.2.2.2.2.2.2)) = false := by
    rw [Bool.eq_false_iff]
    intro h
    rw [Bool.and_eq_true, Bool.and_eq_true] at h
    exact hf ⟨h.1.1, h.1.2, h.2⟩
   rw [if_pos e, yH, if_neg hf]
theorem qKJ {wide : List Int} {used : List Bool} (hl : used.length <= 1048576) (h1 : 1 <= used.length) : ∀ (m : Nat) (i : Int), i + m = (used.length : Int) - 1 -> 0 <= i -> ∀ (Kx Kr : Nat -> List Int -> Prop),
  (Ev (fun n => Z93.l20 n wide [] used i (Kx n) (Kr n)) ↔ if ((used.take (used.length - 1)).drop i.toNat).all id = true then Ev (fun n => Kx n wide) else Ev (fun n => Kr n []))
 | 0, i, h, h0, Kx, Kr => by
  refine Ev.suc.trans ?_
  simp (disch := omega) only [Z93.l20, Z93.l20.b, qC, if_neg, decide_eq_true_eq, Ev.s1 Kx]
  rw [List.drop_eq_nil_of_le (by simp; omega)]
  simp
 | m + 1, i, h, h0, Kx, Kr => by
  refine Ev.suc.trans ?_
  have hk : i.toNat < (used.take (used.length - 1)).length := by simp; omega
  have e : (used.take (used.length - 1)).drop i.toNat = rd used i.toNat :: (used.take (used.length - 1)).drop (i + 1).toNat := by
   rw [List.drop_eq_getElem_cons hk, show (i + 1).toNat = i.toNat + 1 from by omega]
   congr 1
   rw [List.getElem_take, rd, List.getD_eq_getElem?_getD, List.getElem?_eq_getElem (by omega)]; rfl
  simp (disch := omega) only [Z93.l20, Z93.l20.b, qC, if_pos, decide_eq_true_eq, qD, Ev.iteI, Bool.not_eq_true', Ev.s1 Kr, e]
  rw [qKJ hl h1 m (i + 1) (by omega) (by omega), Ev.s1 Kx, Ev.s1 Kr, List.all_cons, id]
  cases rd used i.toNat <;> simp
theorem qIu {d : List qB} {t : List qA} (hd : d.length <= 1099511627776) (hg : ∀ x : qA, x ∈ t -> Wd x.2.2.2.2.2.1 /\ x.2.2.2.2.2.2.length <= 1099511627776) (R : Nat -> List Int -> Prop) :
  Ev (fun n => Z93.c n d t (R n)) ↔ Ev (fun n => R n (if jL d = true /\ (zL d t).2 = true then (zL d t).1 else [])) := by
 refine Ev.suc.trans ?_
 simp only [Z93.c, Z93.w, kW, Ev.iteI, decide_eq_true_eq, decide_eq_false_iff_not, Bool.not_eq_false', Ev.s1 R, zL]
 by_cases h : jL d = true
 ·rw [if_pos h]
  by_cases hl : 1 <= t.length /\ t.length <= 400
  ·rw [if_pos (by omega), if_neg (by omega)]
   simp only [if_pos hl]
   have lp := fun (Kx : Nat -> List Int -> List Int -> List Bool -> Prop) (Kr : Nat -> List Int -> Prop) => qDE hd hl.2 hg t [] (List.replicate t.length false) rfl hg (by simp) (fun w hw => by cases hw) Kx Kr
   simp only [List.length_nil] at lp
   simp only [Int.natCast_zero] at lp
   simp (disch := omega) only [Z93.j0, qD, decide_true, Bool.and_true, Int.toNat_natCast]
   rw [lp]
   cases hg' : jH d t [] (List.replicate t.length false) with
   | none => simp only [h, Bool.false_eq_true, and_false, if_false]; exact Ev.s1 R _
   | some r =>
    obtain ⟨h1, h2, h3⟩ := kL (fun w hw => by cases hw) hg'
    rw [List.length_replicate] at h3
    simp only [h, true_and]
    rw [qKJ (by omega) (by omega) (t.length - 1) 0 (by omega) (by omega), Ev.s1 R, Ev.s1 R, h3]
    simp only [Int.toNat_zero, List.drop_zero]
    split <;> rfl
  ·simp only [if_neg hl, Bool.false_eq_true, and_false, if_false]
   split
   ·rw [if_pos (by omega)]
   ·rfl
 ·rw [if_neg h]
  simp only [h, false_and, if_false]
  rw [if_neg (by simp)]
theorem vP {d : List qB} {t : List qA} (hd : d.length <= 1099511627776) (hg : ∀ x : qA, x ∈ t -> Wd x.2.2.2.2.2.1 /\ x.2.2.2.2.2.2.length <= 1099511627776) (R : Nat -> Int -> Prop) :
  Ev (fun n => Z47.c n d t (R n)) ↔ Ev (fun n => R n (xH d t)) := by
 refine Ev.suc.trans ?_
 simp only [Z47.c, Z47.w, qIu hd hg, Ev.iteI, decide_eq_true_eq, Ev.s1 R, xH, zE]
 by_cases h : jL d = true
 ·by_cases h2 : (zL d t).2 = true
  ·obtain ⟨h3, h4, h5, h6⟩ := qDF h2
   simp only [h, h2, and_self, if_true]
   rw [if_neg (by omega)]
   simp (disch := omega) only [qC, qD, Ev.s1 R]
   rw [show (((zL d t).1.length : Int) - 1).toNat = t.length - 1 from by omega]
  ·simp only [h, h2, and_false, if_false, List.length_nil, if_true]
   simp
 ·simp only [h, false_and, if_false, List.length_nil]
  simp
def LOk (l : List Int) : Prop := ∀ w ∈ l, 0 <= w /\ w <= 1000000
theorem LOk.app {acc : List Int} {w : Int} (h : LOk acc) (hw : 0 <= w /\ w <= 1000000) : LOk (acc ++ [w]) := by
 intro v hv
 rcases List.mem_append.1 hv with hv | hv
 ·exact h v hv
 ·rw [List.mem_singleton] at hv; subst hv; exact hw
theorem qGo {w : Int} {ws : List Nat} (hw : Below 18446744073709551616 ws) : vA w (W ws) = true ↔ Ok w ws := by
 rw [qIe hw]
 exact ⟨fun ⟨a, b, c, d⟩ => ⟨a, b, c, hw, d⟩, fun h => ⟨h.lo, h.hi, h.len, h.top⟩⟩
theorem qKB {w : Int} {l : List Int} (hw : Wd l) (h : vA w l = true) : ∃ ws, l = W ws /\ Ok w ws := by
 obtain ⟨ws, rfl, hB⟩ := hw.of
 exact ⟨ws, rfl, (qGo hB).1 h⟩
theorem Ok.bits {w : Int} {ws : List Nat} (h : Ok w ws) : vA w (W ws) = true := (qGo h.words).2 h
theorem qJT {w : Nat} {ws : List Nat} (hw : Below 18446744073709551616 ws) (hl : ws.length <= 4096) (hwl : w <= 64 * ws.length) : ∀ (m k : Nat), k + m = w -> ∀ R : Nat -> List Int -> Prop,
  (Ev (fun n => Z58.l3 n w (W ws) k (bl k (bit ws)) (R n)) ↔ Ev (fun n => R n (bl w (bit ws))))
 | 0, k, h, R => by
  obtain rfl : k = w := by omega
  refine Ev.suc.trans ?_
  simp (disch := omega) only [Z58.l3, Z58.l3.b, if_neg, decide_eq_true_eq, Ev.s1 R]
 | m + 1, k, h, R => by
  have ek : IntKind.wrap .i64 ((k : Int) + 1) = ((k + 1 : Nat) : Int) := qC (by omega) (by omega)
  have e : bl k (bit ws) ++ [(((bit ws k).toNat : Nat) : Int)] = bl (k + 1) (bit ws) := by
   rw [qNO, qNQ]
   refine qNP fun i hi => ?_
   split
   ·rfl
   ·congr 1; omega
  refine Ev.suc.trans ?_
  simp (disch := first | omega | (simp only [xF, List.length_cons, List.length_nil]; omega)) only [Z58.l3, Z58.l3.b, if_pos, decide_eq_true_eq, qHW hw _ hl, qT, ek, e]
  rw [qJT hw hl hwl m (k + 1) (by omega), Ev.s1 R]
theorem qMR {w : Nat} {ws : List Nat} (h : Ok w ws) (R : Nat -> List Int -> Prop) :
  Ev (fun n => Z58.c n w (W ws) (R n)) ↔ Ev (fun n => R n (bl w (bit ws))) := by
 have hlen := h.len
 have hhi := h.hi
 have k := qJT (w := w) h.words (by omega) (by omega) w 0 (by omega) (fun n => R (n + 1))
 simp only [Int.natCast_zero, qM7] at k
 refine Ev.suc.trans ?_
 simp only [Z58.c, Z58.w]
 rw [k, Ev.s1 R]
def qP4 : List UInt8 := [48, 49, 50, 51, 52, 53, 54, 55, 56, 57, 97, 98, 99, 100, 101, 102]
def qIN (v : Nat) : Int := ((List.getD qP4 v 0).toNat : Int)
def dig (ws : List Nat) (e at_ : Nat) : Nat := (ws.getD (at_ / 64) 0 >>> (at_ % 64)) % 2 ^ e
def dgs (ws : List Nat) (e : Nat) : Nat -> List Int
 | 0 => []
 | k + 1 => qIN (dig ws e (e * k)) :: dgs ws e k
theorem qGZ {ws : List Nat} {e : Nat} : ∀ k, (dgs ws e k).length = k
 | 0 => rfl
 | k + 1 => by rw [dgs, List.length_cons, qGZ k]
def qPx (w : Nat) (ws : List Nat) : List Int := if w % 4 = 0 then [35, 120] ++ dgs ws 4 (w / 4) else [35, 98] ++ dgs ws 1 w
def wN (l : List Int) : List Nat := l.map Int.toNat
theorem qP2 (ws : List Nat) : wN (W ws) = ws := by
 unfold wN W
 rw [List.map_map]
 exact List.map_id' _
def wtx (b : Int) (l : List Int) : List UInt8 := if vA b l = true then zC (qPx b.toNat (wN l)) else []
theorem qGm (l : List Int) : (zC l).length = l.length := by simp [zC]
theorem qMw (b : Int) (l : List Int) : (wtx b l).length <= 4098 := by
 rw [wtx]
 split
 ·rename_i h
  rw [vA] at h
  have hb : b <= 4096 := by
   simp only [Bool.and_eq_true, decide_eq_true_eq] at h
   omega
  rw [qGm, qPx]
  split
  ·rw [List.length_append, qGZ]; simp; omega
  ·rw [List.length_append, qGZ]; simp; omega
 ·simp
theorem qFc {l : List Int} (hl : l.length <= 8192) : ∀ (k : Nat) (o : List Int), k <= l.length -> o = (l.drop k).reverse -> ∀ Kx : Nat -> List Int -> Prop,
  (Ev (fun n => Z71.l3 n l ((k : Int) - 1) o (Kx n)) ↔ Ev (fun n => Kx n l.reverse))
 | 0, o, hk, ho, Kx => by
  refine Ev.suc.trans ?_
  simp only [Z71.l3, Z71.l3.b]
  rw [Ev.iteI, if_neg (by simp), Ev.s1 Kx, ho]; rfl
 | k + 1, o, hk, ho, Kx => by
  have hlen : o.length = l.length - (k + 1) := by rw [ho, List.length_reverse, List.length_drop]
  have e0 : o ++ [rd l k] = (l.drop k).reverse := by
   rw [List.drop_eq_getElem_cons (show k < l.length by omega), List.reverse_cons, <- ho, rd, List.getD_eq_getElem?_getD, List.getElem?_eq_getElem (show k < l.length by omega)]; rfl
  have ih := qFc hl k (o ++ [rd l k]) (by omega) e0 (fun n => Kx (n + 1))
  refine Ev.suc.trans ?_
  simp only [Z71.l3, Z71.l3.b]
  rw [show ((k + 1 : Nat) : Int) - 1 = (k : Int) from by omega, qC (x := (k : Int) - 1) (by omega) (by omega), Int.toNat_natCast, Ev.iteI, if_pos (by simp)]
  have g1 : (0 : Int) <= (k : Int) /\ (k : Int) < (l.length : Int) := ⟨by omega, by omega⟩
  have g2 : o.length + ([rd l k] : List Int).length <= 35184372088832 := by simp; omega
  simp only [qD g1, qT g2]
  exact ih.trans (Ev.s1 Kx _)
theorem qJf {l : List Int} (hl : l.length <= 8192) (R : Nat -> List Int -> Prop) : Ev (fun n => Z71.c n l (R n)) ↔ Ev (fun n => R n l.reverse) := by
 refine Ev.suc.trans ?_
 simp only [Z71.c, Z71.w]
 rw [qC (by omega) (by omega)]
 exact (qFc hl l.length [] (Nat.le_refl _) (by simp) (fun n => R (n + 1))).trans (Ev.s1 R _)
theorem nib {y : Nat} : y % 16 = 8 * (y.testBit 3).toNat + 4 * (y.testBit 2).toNat + 2 * (y.testBit 1).toNat + (y.testBit 0).toNat := by
 have h : ∀ a : Nat, (decide (a % 2 = 1)).toNat = a % 2 := fun a => by
  rcases Nat.mod_two_eq_zero_or_one a with e | e <;> rw [e] <;> rfl
 rw [Nat.testBit_eq_decide_div_mod_eq, Nat.testBit_eq_decide_div_mod_eq, Nat.testBit_eq_decide_div_mod_eq, Nat.testBit_eq_decide_div_mod_eq, h, h, h, h]
 omega
theorem qP5 {ws : List Nat} {k : Nat} : dig ws 4 (4 * k) = 8 * (bit ws (4 * k + 3)).toNat + 4 * (bit ws (4 * k + 2)).toNat + 2 * (bit ws (4 * k + 1)).toNat + (bit ws (4 * k)).toNat := by
 unfold dig bit
 rw [show (4 * k + 3) / 64 = 4 * k / 64 from by omega, show (4 * k + 2) / 64 = 4 * k / 64 from by omega, show (4 * k + 1) / 64 = 4 * k / 64 from by omega,
  show (4 * k + 3) % 64 = 4 * k % 64 + 3 from by omega, show (4 * k + 2) % 64 = 4 * k % 64 + 2 from by omega, show (4 * k + 1) % 64 = 4 * k % 64 + 1 from by omega,
  show (2 : Nat) ^ 4 = 16 from rfl, nib, Nat.testBit_shiftRight, Nat.testBit_shiftRight, Nat.testBit_shiftRight, Nat.testBit_shiftRight, Nat.add_zero (4 * k % 64)]
theorem qP6 {ws : List Nat} {k : Nat} : qIN (dig ws 1 (1 * k)) = 48 + ((bit ws k).toNat : Int) := by
 have h : ∀ b : Bool, ∀ a : Nat, a = b.toNat -> qIN a = 48 + (b.toNat : Int) := fun b a e => by subst e; cases b <;> rfl
 refine h _ _ ?_
 unfold dig bit
 rw [Nat.one_mul, Nat.pow_one]
 have hm : ∀ y : Nat, y % 2 = (y.testBit 0).toNat := fun y => by
  rw [Nat.testBit_eq_decide_div_mod_eq, Nat.pow_zero, Nat.div_one]
  rcases Nat.mod_two_eq_zero_or_one y with e | e <;> rw [e] <;> rfl
 rw [hm, Nat.testBit_shiftRight, Nat.add_zero]
theorem qFz {w : Nat} {f : Nat -> Bool} {i : Nat} (hi : i < w) : rd (bl w f).reverse i = ((f (w - 1 - i)).toNat : Int) := by
 have hl : (bl w f).length = w := xF w f
 rw [rd, List.getD_eq_getElem?_getD, List.getElem?_reverse (by omega), hl, <- List.getD_eq_getElem?_getD]
 exact qLU (by omega)
theorem qGG {l : List Int} {w : Nat} {x32 : List Int} (hw : w % 4 = 0) (hl : l.length = w) (hw2 : w <= 4096) {i : Nat} (hi : i < w) (h4 : i % 4 ≠ 0) {o : List Int} {Kx : Nat -> List Int -> Prop} :
  Ev (fun n => Z48.l8 n l w x32 i o (Kx n)) ↔ Ev (fun n => Z48.l8 n l w x32 ((i + 1 : Nat) : Int) o (Kx (n + 1))) := by
 refine Ev.suc.trans ?_
 simp only [Z48.l8, Z48.l8.b]
 rw [Ev.iteI, if_pos (by simp; omega), qB7 (by omega), qB7 (by omega), qC (x := (i : Int) + 1) (by omega) (by omega)]
 rw [Ev.iteI, if_neg (by simp; omega), Ev.iteI, if_neg (by simp; omega)]; rfl
theorem qJ6 {w : Nat} {ws : List Nat} {x32 : List Int} (hw : w % 4 = 0) (hw2 : w <= 4096) : ∀ (k : Nat) (o : List Int), 4 * k <= w -> o.length + k <= 8192 -> ∀ Kx : Nat -> List Int -> Prop,
  (Ev (fun n => Z48.l8 n (bl w (bit ws)).reverse w x32 ((w - 4 * k : Nat) : Int) o (Kx n)) ↔ Ev (fun n => Kx n (o ++ dgs ws 4 k)))
 | 0, o, hk, ho, Kx => by
  have hl : (bl w (bit ws)).reverse.length = w := by rw [List.length_reverse, xF]
  refine Ev.suc.trans ?_
  simp only [Z48.l8, Z48.l8.b, hl]
  rw [Ev.iteI, if_neg (by simp), dgs, List.append_nil, Ev.s1 Kx]
 | k + 1, o, hk, ho, Kx => by
  have hl : (bl w (bit ws)).reverse.length = w := by rw [List.length_reverse, xF]
  obtain ⟨i, ei⟩ : ∃ i, i = w - 4 * (k + 1) := ⟨_, rfl⟩
  have ih := qJ6 (ws := ws) (x32 := x32) hw hw2 k (o ++ [qIN (dig ws 4 (4 * k))]) (by omega) (by simp; omega) (fun n => Kx (n + 1 + 1 + 1 + 1))
  have s1 := qGG (l := (bl w (bit ws)).reverse) (x32 := x32) hw hl hw2 (i := i + 1) (by omega) (by omega) (o := o ++ [qIN (dig ws 4 (4 * k))]) (Kx := fun n => Kx (n + 1))
  have s2 := qGG (l := (bl w (bit ws)).reverse) (x32 := x32) hw hl hw2 (i := i + 1 + 1) (by omega) (by omega) (o := o ++ [qIN (dig ws 4 (4 * k))]) (Kx := fun n => Kx (n + 1 + 1))
  have s3 := qGG (l := (bl w (bit ws)).reverse) (x32 := x32) hw hl hw2 (i := i + 1 + 1 + 1) (by omega) (by omega) (o := o ++ [qIN (dig ws 4 (4 * k))]) (Kx := fun n => Kx (n + 1 + 1 + 1))
  rw [show w - 4 * k = i + 1 + 1 + 1 + 1 from by omega] at ih
  have r0 := qFz (f := bit ws) (show i < w by omega)
  have r1 := qFz (f := bit ws) (show i + 1 < w by omega)
  have r2 := qFz (f := bit ws) (show i + 2 < w by omega)
  have r3 := qFz (f := bit ws) (show i + 3 < w by omega)
  rw [show w - 1 - i = 4 * k + 3 from by omega] at r0
  rw [show w - 1 - (i + 1) = 4 * k + 2 from by omega] at r1
  rw [show w - 1 - (i + 2) = 4 * k + 1 from by omega] at r2
  rw [show w - 1 - (i + 3) = 4 * k from by omega] at r3
  have hd := qP5 (ws := ws) (k := k)
  have b0 := Bool.toNat_le (bit ws (4 * k + 3))
  have b1 := Bool.toNat_le (bit ws (4 * k + 2))
  have b2 := Bool.toNat_le (bit ws (4 * k + 1))
  have b3 := Bool.toNat_le (bit ws (4 * k))
  generalize (bit ws (4 * k + 3)).toNat = a0 at *
  generalize (bit ws (4 * k + 2)).toNat = a1 at *
  generalize (bit ws (4 * k + 1)).toNat = a2 at *
  generalize (bit ws (4 * k)).toNat = a3 at *
  have w8 : ∀ x : Int, 0 <= x -> x < 256 -> IntKind.wrap .u8 x = x := fun x h0 h1 => by
   show x % 256 = x
   exact Int.emod_eq_of_lt h0 h1
  have ev : IntKind.wrap .u8 (IntKind.wrap .u8 (IntKind.wrap .u8 (IntKind.wrap .u8 (8 * (a0 : Int)) + IntKind.wrap .u8 (4 * (a1 : Int))) + IntKind.wrap .u8 (2 * (a2 : Int))) + (a3 : Int)) = ((dig ws 4 (4 * k) : Nat) : Int) := by
   rw [w8 (8 * (a0 : Int)) (by omega) (by omega), w8 (4 * (a1 : Int)) (by omega) (by omega), w8 (2 * (a2 : Int)) (by omega) (by omega), w8 (8 * (a0 : Int) + 4 * a1) (by omega) (by omega), w8 (8 * (a0 : Int) + 4 * a1 + 2 * a2) (by omega) (by omega), w8 _ (by omega) (by omega), hd]
   omega
  refine Ev.suc.trans ?_
  rw [<- ei]
  simp only [Z48.l8, Z48.l8.b, hl]
  rw [qB7 (by omega), qB7 (by omega), qC (x := (i : Int) + 1) (by omega) (by omega), qC (x := (i : Int) + 2) (by omega) (by omega), qC (x := (i : Int) + 3) (by omega) (by omega)]
  rw [show ((i : Int) + 1).toNat = i + 1 from by omega, show ((i : Int) + 2).toNat = i + 2 from by omega, show ((i : Int) + 3).toNat = i + 3 from by omega, Int.toNat_natCast, r0, r1, r2, r3, ev, Int.toNat_natCast]
  rw [Ev.iteI, if_pos (by simp; omega), Ev.iteI, if_neg (by simp; omega), Ev.iteI, if_pos (by simp; omega)]
  have g0 : (0 : Int) <= (i : Int) /\ (i : Int) < ((w : Nat) : Int) := ⟨by omega, by omega⟩
  have g1 : (0 : Int) <= (i : Int) + 1 /\ (i : Int) + 1 < ((w : Nat) : Int) := ⟨by omega, by omega⟩
  have g2 : (0 : Int) <= (i : Int) + 2 /\ (i : Int) + 2 < ((w : Nat) : Int) := ⟨by omega, by omega⟩
  have g3 : (0 : Int) <= (i : Int) + 3 /\ (i : Int) + 3 < ((w : Nat) : Int) := ⟨by omega, by omega⟩
  have g4 : (0 : Int) <= (dig ws 4 (4 * k) : Int) /\ (dig ws 4 (4 * k) : Int) < ((([48, 49, 50, 51, 52, 53, 54, 55, 56, 57, 97, 98, 99, 100, 101, 102] : List UInt8).length : Nat) : Int) := ⟨by omega, by simp; omega⟩
  have g5 : o.length + ([((List.getD ([48, 49, 50, 51, 52, 53, 54, 55, 56, 57, 97, 98, 99, 100, 101, 102] : List UInt8) (dig ws 4 (4 * k)) 0).toNat : Int)] : List Int).length <= 35184372088832 := by simp; omega
  simp only [qD g0, qD g1, qD g2, qD g3, qD g4, qT g5]
  refine (s1.trans (s2.trans (s3.trans ih))).trans ?_
  rw [dgs, List.append_assoc]
  exact (Ev.suc (P := fun n => Kx (n + 1 + 1 + 1) (o ++ ([qIN (dig ws 4 (4 * k))] ++ dgs ws 4 k)))).symm.trans ((Ev.suc (P := fun n => Kx (n + 1 + 1) (o ++ ([qIN (dig ws 4 (4 * k))] ++ dgs ws 4 k)))).symm.trans ((Ev.suc (P := fun n => Kx (n + 1) (o ++ ([qIN (dig ws 4 (4 * k))] ++ dgs ws 4 k)))).symm.trans (Ev.s1 Kx _)))
theorem qKD {w : Nat} {ws : List Nat} {x32 : List Int} (hw : w % 4 ≠ 0) (hw2 : w <= 4096) : ∀ (k : Nat) (o : List Int), k <= w -> o.length + k <= 8192 -> ∀ Kx : Nat -> List Int -> Prop,
  (Ev (fun n => Z48.l8 n (bl w (bit ws)).reverse w x32 ((w - k : Nat) : Int) o (Kx n)) ↔ Ev (fun n => Kx n (o ++ dgs ws 1 k)))
 | 0, o, hk, ho, Kx => by
  have hl : (bl w (bit ws)).reverse.length = w := by rw [List.length_reverse, xF]
  refine Ev.suc.trans ?_
  simp only [Z48.l8, Z48.l8.b, hl]
  rw [Ev.iteI, if_neg (by simp), dgs, List.append_nil, Ev.s1 Kx]
 | k + 1, o, hk, ho, Kx => by
  have hl : (bl w (bit ws)).reverse.length = w := by rw [List.length_reverse, xF]
  obtain ⟨i, ei⟩ : ∃ i, i = w - (k + 1) := ⟨_, rfl⟩
  have ih := qKD (ws := ws) (x32 := x32) hw hw2 k (o ++ [qIN (dig ws 1 (1 * k))]) (by omega) (by simp; omega) (fun n => Kx (n + 1))
  rw [show w - k = i + 1 from by omega] at ih
  have r0 := qFz (f := bit ws) (show i < w by omega)
  rw [show w - 1 - i = k from by omega] at r0
  have b0 := Bool.toNat_le (bit ws k)
  have ev : IntKind.wrap .u8 (48 + ((bit ws k).toNat : Int)) = qIN (dig ws 1 (1 * k)) := by
   rw [qP6]
   show (48 + ((bit ws k).toNat : Int)) % 256 = _
   exact Int.emod_eq_of_lt (by omega) (by omega)
  refine Ev.suc.trans ?_
  rw [<- ei]
  simp only [Z48.l8, Z48.l8.b, hl]
  rw [qB7 (by omega), qC (x := (i : Int) + 1) (by omega) (by omega), Int.toNat_natCast, r0, ev]
  rw [Ev.iteI, if_pos (by simp; omega), Ev.iteI, if_pos (by simp; omega)]
  have g0 : (0 : Int) <= (i : Int) /\ (i : Int) < ((w : Nat) : Int) := ⟨by omega, by omega⟩
  have g5 : o.length + ([qIN (dig ws 1 (1 * k))] : List Int).length <= 35184372088832 := by simp; omega
  simp only [qD g0, qT g5]
  refine ih.trans ?_
  rw [Ev.s1 Kx, dgs, List.append_assoc]; rfl
theorem qE3 {b : Int} {l : List Int} (hl : Wd l) (R : Nat -> List UInt8 -> Prop) : Ev (fun n => Z48.c n b l (R n)) ↔ Ev (fun n => R n (wtx b l)) := by
 refine Ev.suc.trans ?_
 simp only [Z48.c, Z48.w, qFn hl, Ev.iteI]
 by_cases h : vA b l = true
 ·obtain ⟨ws, rfl, ho⟩ := qKB hl h
  have h1 := ho.lo
  have h2 := ho.hi
  obtain ⟨w, rfl⟩ : ∃ w : Nat, b = (w : Int) := ⟨b.toNat, by omega⟩
  rw [if_neg (by rw [h]; decide), wtx, if_pos h, qP2, Int.toNat_natCast, qPx, qMR ho, qJf (by rw [xF]; omega)]
  have g1 : 0 < ([35, 98] : List Int).length := by decide
  have g2 : 0 < ([35, 120] : List Int).length := by decide
  simp only [qT g1, qT g2, Ev.iteI, decide_eq_true_eq]
  rw [qB7 (by omega)]
  by_cases hm : w % 4 = 0
  ·have lp := qJ6 (ws := ws) (x32 := W ws) hm (by omega) (w / 4) [35, 120] (by omega) (by simp; omega) (fun n y => R (n + 1) (zC y))
   rw [show w - 4 * (w / 4) = 0 from by omega] at lp
   rw [if_pos (by omega), if_pos hm]
   exact lp.trans (Ev.s1 R _)
  ·have lp := qKD (ws := ws) (x32 := W ws) hm (by omega) w [35, 98] (Nat.le_refl _) (by simp; omega) (fun n y => R (n + 1) (zC y))
   rw [show w - w = 0 from by omega] at lp
   rw [if_neg (by omega), if_neg hm]
   exact lp.trans (Ev.s1 R _)
 ·rw [if_pos (by simpa using h), wtx, if_neg h, Ev.s1 R]
theorem qHZ (a : Nat) : Go.Lib.itoa (a : Int) = Go.Lib.decDigits a := by
 rw [Go.Lib.itoa, if_neg (by omega), Int.toNat_natCast]
theorem qMp : ∀ (f a : Nat) (o : List UInt8), 0 < a -> a <= f -> a <= 1000000 -> o.length + a <= 4000000 -> ∀ Kx : Nat -> List UInt8 -> Prop,
  (Ev (fun n => Z53.l4 n a o (Kx n)) ↔ Ev (fun n => Kx n (Go.Lib.decDigits a ++ o)))
 | 0, a, o, h0, hf, h1, ho, Kx => by omega
 | f + 1, a, o, h0, hf, h1, ho, Kx => by
  have e0 : IntKind.wrap .u8 (IntKind.wrap .i64 (48 + ((a % 10 : Nat) : Int))) = ((48 + a % 10 : Nat) : Int) := by
   rw [qC (by omega) (by omega)]
   show (48 + ((a % 10 : Nat) : Int)) % 256 = _
   omega
  have eb : zC ([((48 + a % 10 : Nat) : Int)] : List Int) = [UInt8.ofNat (48 + a % 10)] := by
   show [UInt8.ofNat ((48 + a % 10 : Nat) : Int).toNat] = _
   rw [Int.toNat_natCast]
  refine Ev.suc.trans ?_
  simp only [Z53.l4, Z53.l4.b]
  rw [qB7 (by omega), qFe (by omega), show (a : Int) % 10 = ((a % 10 : Nat) : Int) from by omega, e0, eb, show (a : Int) / 10 = ((a / 10 : Nat) : Int) from by omega, qC (by omega) (by omega), Ev.iteI, if_pos (by simp; omega)]
  have g : ([UInt8.ofNat (48 + a % 10)] : List UInt8).length + o.length <= 9223372036854775807 := by simp; omega
  simp only [qT g]
  rw [Go.Lib.decDigits]
  by_cases h : a < 10
  ·rw [dif_pos h, show a / 10 = 0 from by omega, show a % 10 = a from by omega]
   refine Ev.suc.trans ?_
   simp only [Z53.l4, Z53.l4.b]
   rw [Ev.iteI, if_neg (by simp)]
   exact (Ev.suc (P := fun n => Kx (n + 1) ([UInt8.ofNat (48 + a)] ++ o))).symm.trans (Ev.s1 Kx _)
  ·rw [dif_neg h]
   refine (qMp f (a / 10) ([UInt8.ofNat (48 + a % 10)] ++ o) (by omega) (by omega) (by omega) (by simp; omega) (fun n => Kx (n + 1))).trans ?_
   rw [Ev.s1 Kx, List.append_assoc]
theorem qD8 {a : Int} (h0 : 0 <= a) (h1 : a <= 1000000) (R : Nat -> List UInt8 -> Prop) : Ev (fun n => Z53.c n a (R n)) ↔ Ev (fun n => R n (Go.Lib.itoa a)) := by
 obtain ⟨k, rfl⟩ : ∃ k : Nat, a = (k : Int) := ⟨a.toNat, by omega⟩
 refine Ev.suc.trans ?_
 simp only [Z53.c, Z53.w, Ev.iteI, qHZ]
 by_cases hk : k = 0
 ·subst hk
  rw [if_pos (by decide), Ev.s1 R, Go.Lib.decDigits]; rfl
 ·rw [if_neg (by simp; omega), qMp k k [] (by omega) (Nat.le_refl _) (by omega) (by simp; omega) (fun n => R (n + 1)), List.append_nil, Ev.s1 R]
theorem qKo : ∀ (f a : Nat), a <= f -> (Go.Lib.decDigits a).length <= a + 1
 | 0, a, h => by
  rw [Go.Lib.decDigits, dif_pos (by omega)]; simp
 | f + 1, a, h => by
  rw [Go.Lib.decDigits]
  by_cases h10 : a < 10
  ·rw [dif_pos h10]; simp
  ·rw [dif_neg h10, List.length_append]
   have := qKo f (a / 10) (by omega)
   simp; omega
theorem qCk {a : Int} (h0 : 0 <= a) (h1 : a <= 1000000) : (Go.Lib.itoa a).length <= 1000001 := by
 obtain ⟨k, rfl⟩ : ∃ k : Nat, a = (k : Int) := ⟨a.toNat, by omega⟩
 rw [qHZ]
 have := qKo k k (Nat.le_refl _)
 omega
def qLb (n : Nat) : Int := if 48 <= n /\ n <= 57 then (n : Int) - 48 else if 97 <= n /\ n <= 102 then (n : Int) - 87 else -1
theorem qMT (n : Nat) : qLb n < 16 := by
 unfold qLb; split
 ·omega
 ·split <;> omega
def yL (e : Nat) (c : UInt8) : Bool := decide (0 <= qLb c.toNat /\ qLb c.toNat < ((2 ^ e : Nat) : Int))
def eOf (s : List UInt8) : Nat := if ((List.getD s 1 0).toNat : Int) = 120 then 4 else 1
def qNj (s : List UInt8) : Bool := decide (3 <= s.length /\ ((List.getD s 0 0).toNat : Int) = 35 /\ (((List.getD s 1 0).toNat : Int) = 98 \/ ((List.getD s 1 0).toNat : Int) = 120))
def okT (s : List UInt8) : Bool := qNj s && decide (eOf s * (s.length - 2) <= 4096) && (s.drop 2).all (yL (eOf s))
theorem qH7 (s : List UInt8) : eOf s = 1 \/ eOf s = 4 := by unfold eOf; split <;> simp
def xA (bs : List Int) : Prop := (∀ x ∈ bs, 0 <= x /\ x < 256) /\ (bs.length : Int) <= 4611686018427387904
def Pos (bs : List Int) (p : Int) : Prop := 0 <= p /\ p <= (bs.length : Int)
theorem qNv {bs : List Int} {P : Int -> Prop} (h : ∀ x ∈ bs, P x) {i : Nat} (hi : i < bs.length) : P (rd bs i) := by
 simp only [rd, List.getD_eq_getElem?_getD, List.getElem?_eq_getElem hi, Option.getD_some]
 exact h _ (List.getElem_mem hi)
theorem qNR {a : List Int} {R : Nat -> Bool -> Prop} (h : Ev fun n => R n (decide ((a.length : Int) > 1048576))) : Ev fun n => Z22.c n a (R n) := by
 refine Ev.succ ?_; simp only [Z22.c, Z22.w]; exact h.shift
theorem qMO {bs : List Int} {R : Nat -> List Int -> Int -> Prop} (h : Ev fun n => R n bs 0) : Ev fun n => Z61.c n bs (R n) := by
 refine Ev.succ ?_; simp only [Z61.c, Z61.w]; exact h.shift
theorem qEy {bs : List Int} {p : Int} {R : Nat -> Int -> List Int -> Int -> Prop} (hb : xA bs) (hp : Pos bs p) (h : ∀ r q, 0 <= r -> r < 256 -> Pos bs q -> Ev (fun n => R n r bs q)) :
  Ev (fun n => Z65.c n bs p (R n)) := by
 obtain ⟨hp0, hp1⟩ := hp
 have hl := hb.2
 refine Ev.succ ?_
 simp only [Z65.c, Z65.w]
 refine Ev.ite (fun hc => (h 0 p (by omega) (by omega) ⟨hp0, hp1⟩).shift) fun hc => ?_
 simp only [decide_eq_true_eq] at hc
 have hr := qNv hb.1 (i := p.toNat) (by omega)
 simp (disch := omega) only [qC, Int.add_sub_cancel]
 exact Ev.grd (by simp; omega) (h _ _ hr.1 hr.2 ⟨by omega, by omega⟩).shift
theorem qGD {x m : Int} (hx : 0 <= x) (hm : 1 <= m) : 0 <= Int.tmod x m /\ Int.tmod x m < m := by
 rw [qB7 hx]; exact ⟨Int.emod_nonneg _ (by omega), Int.emod_lt_of_pos _ (by omega)⟩
theorem jX {bs : List Int} {p m : Int} {R : Nat -> Int -> List Int -> Int -> Prop} (hb : xA bs) (hp : Pos bs p) (hm : 1 <= m) (h : ∀ r q, 0 <= r -> r < m -> Pos bs q -> Ev (fun n => R n r bs q)) :
  Ev (fun n => Z62.c n bs p m (R n)) := by
 refine Ev.succ ?_
 simp only [Z62.c, Z62.w]
 refine Ev.ite (fun hc => (h 0 p (by omega) (by omega) hp).shift) fun hc => Ev.ite (fun hc' => qEy hb hp fun r q h1 h2 h3 => ?_) fun hc' => qEy hb hp fun r q h1 h2 h3 => qEy hb h3 fun r' q' h1' h2' h3' => ?_
 ·have := qGD (x := r) (m := m) h1 hm
  exact Ev.grd (by simp; omega) (h _ _ this.1 this.2 h3).shift
 ·simp (disch := omega) only [qC]
  have := qGD (x := r * 256 + r') (m := m) (by omega) hm
  exact Ev.grd (by simp; omega) (h _ _ this.1 this.2 h3').shift
theorem vR {bs : List Int} {p m : Int} {R : Nat -> Bool -> List Int -> Int -> Prop} (hb : xA bs) (hp : Pos bs p) (hm : 1 <= m) (h : ∀ r q, Pos bs q -> Ev (fun n => R n r bs q)) :
  Ev (fun n => Z67.c n bs p m (R n)) := by
 refine Ev.succ ?_
 simp only [Z67.c, Z67.w]
 exact jX hb hp hm fun r q _ _ h3 => (h _ q h3).shift
theorem qDC {bs : List Int} (hb : xA bs) : ∀ (m : Nat) (x4 : Int), x4 + m = 8 -> 0 <= x4 -> ∀ (x3 p : Int), 0 <= x3 -> x3 < 18446744073709551616 -> Pos bs p -> ∀ R : Nat -> Int -> List Int -> Int -> Prop,
  (∀ r q, 0 <= r -> r < 18446744073709551616 -> Pos bs q -> Ev (fun n => R n r bs q)) -> Ev (fun n => Z70.l3 n x3 x4 bs p (R n))
 | 0, x4, h, h0, x3, p, h3, h3', hp, R, hR => by
  refine Ev.succ ?_
  simp only [Z70.l3, Z70.l3.b]
  exact Ev.neg (by simp; omega) (hR _ _ h3 h3' hp).shift
 | m + 1, x4, h, h0, x3, p, h3, h3', hp, R, hR => by
  refine Ev.succ ?_
  simp only [Z70.l3, Z70.l3.b]
  refine Ev.pos (by simp; omega) (qEy hb hp fun r q h1 h2 hq => ?_)
  rw [qC (by omega) (by omega)]
  have := qMj .or (IntKind.wrap .u64 (x3 * 2 ^ 8)) (IntKind.wrap .u64 r)
  exact qDC hb m (x4 + 1) (by omega) (by omega) _ q this.1 this.2 hq (fun n => R (n + 1)) fun r q h1 h2 hq => (hR r q h1 h2 hq).shift
theorem qI8 {bs : List Int} {p : Int} {R : Nat -> Int -> List Int -> Int -> Prop} (hb : xA bs) (hp : Pos bs p) (h : ∀ r q, 0 <= r -> r < 18446744073709551616 -> Pos bs q -> Ev (fun n => R n r bs q)) :
  Ev (fun n => Z70.c n bs p (R n)) := by
 refine Ev.succ ?_
 simp only [Z70.c, Z70.w]
 exact qDC hb 8 0 (by omega) (by omega) 0 p (by omega) (by omega) hp (fun n => R (n + 1)) fun r q h1 h2 hq => (h r q h1 h2 hq).shift
theorem qPy (x : Int) : IntKind.wrap .u64 (IntKind.wrap .i64 x) = x % 18446744073709551616 := by
 simp only [IntKind.wrap, IntKind.bits, IntKind.signed]
 simp; split <;> omega
def qNd (r : Int) : Prop := -9223372036854775808 <= r /\ r < 9223372036854775808
theorem qAA {bs : List Int} {p a b : Int} {R : Nat -> Int -> List Int -> Int -> Prop} (hb : xA bs) (hp : Pos bs p) (ha : qNd a) (hbb : qNd b) (hab : b - a < 9223372036854775808)
  (h : ∀ r q, qNd r -> (a <= b -> a <= r /\ r <= b) -> Pos bs q -> Ev (fun n => R n r bs q)) : Ev (fun n => Z64.c n bs p a b (R n)) := by
 obtain ⟨a1, a2⟩ := ha; obtain ⟨b1, b2⟩ := hbb
 refine Ev.succ ?_
 simp only [Z64.c, Z64.w]
 refine jX hb hp (by omega) fun r q h1 h2 h3 => Ev.ite (fun hc => (h a q ⟨a1, a2⟩ (fun _ => by omega) h3).shift) fun hc => Ev.ite (fun hc => (h b q ⟨b1, b2⟩ (fun _ => by omega) h3).shift) fun hc' =>
  Ev.ite (fun hc => (h a q ⟨a1, a2⟩ (fun _ => by omega) h3).shift) fun hc'' => qI8 hb h3 fun w q' w1 w2 h3' => ?_
 simp only [decide_eq_true_eq] at hc''
 rw [qC (x := b - a) (by omega) (by omega), qPy]
 have e : (b - a + 1) % 18446744073709551616 = b - a + 1 := by omega
 rw [e]
 have hd : 0 <= Int.fdiv w (2 ^ 1) := by rw [qM1 (by decide)]; omega
 have ht := qGD (x := Int.fdiv w (2 ^ 1)) (m := b - a + 1) hd (by omega)
 generalize Int.tmod (Int.fdiv w (2 ^ 1)) (b - a + 1) = t at ht ⊢
 rw [qC (x := t) (by omega) (by omega), qC (x := a + t) (by omega) (by omega)]
 exact Ev.grd (by simp; omega) (h _ _ ⟨by omega, by omega⟩ (fun _ => by omega) h3').shift
theorem qJG {bs : List Int} {p a b : Int} {R : Nat -> Int -> List Int -> Int -> Prop} (hb : xA bs) (hp : Pos bs p) (ha : qNd a) (hbb : qNd b) (hab : b - a < 9223372036854775808)
  (h : ∀ r q, qNd r -> Pos bs q -> Ev (fun n => R n r bs q)) : Ev (fun n => Z66.c n bs p a b (R n)) := by
 refine Ev.succ ?_
 simp only [Z66.c, Z66.w]
 refine vR hb hp (by omega) fun o q hq => Ev.ite (fun hc => jX hb hq (by omega) fun r q' h1 h2 hq' => ?_) fun hc => qAA hb hq ha hbb hab fun r q' h1 _ hq' => (h r q' h1 hq').shift
 refine Ev.grd (by simp; omega) (h _ _ ?_ hq').shift
 refine qNv (P := qNd) ?_ (by simp; omega)
 intro x hx
 simp only [List.mem_cons, List.not_mem_nil, or_false] at hx
 rcases hx with rfl | rfl | rfl | rfl
 ·exact qI5 _
 ·exact qI5 _
 ·exact ⟨by omega, by omega⟩
 ·exact ⟨by omega, by omega⟩
theorem Wd.set {ws : List Int} (h : Wd ws) {i : Nat} {x : Int} (h0 : 0 <= x) (h1 : x < 18446744073709551616) : Wd (ws.set i x) := by
 intro y hy
 rcases List.mem_or_eq_of_mem_set hy with h' | rfl
 ·exact h y h'
 ·exact ⟨h0, by omega⟩
theorem Wd.rep (n : Nat) : Wd (List.replicate n 0) := by
 intro y hy
 rw [List.eq_of_mem_replicate hy]; omega
theorem Wd.nil : Wd [] := fun y hy => by cases hy
theorem qDY {l : List Int} (hl : l.length <= 4096) (x7 : List Int) (x8 x9 : Int) : ∀ (m : Nat) (x5 : Int), x5 + m = l.length -> 0 <= x5 -> ∀ (ws : List Int), ws.length = (l.length + 63) / 64 -> Wd ws ->
  ∀ R : Nat -> List Int -> List Int -> Int -> Int -> Prop, (∀ ws', ws'.length = (l.length + 63) / 64 -> Wd ws' -> Ev (fun n => R n ws' x7 x8 x9)) -> Ev (fun n => Z55.l5 n l x7 x8 x9 x5 ws (R n))
 | 0, x5, h, h0, ws, hw, hu, R, hR => by
  refine Ev.succ ?_
  simp only [Z55.l5, Z55.l5.b]
  exact Ev.neg (by simp; omega) (hR ws hw hu).shift
 | m + 1, x5, h, h0, ws, hw, hu, R, hR => by
  refine Ev.succ ?_
  simp only [Z55.l5, Z55.l5.b]
  refine Ev.pos (by simp; omega) ?_
  rw [qFe h0, qB7 h0, qC (x := x5 / 64) (by omega) (by omega), qI4 (x := x5 % 64) (by omega) (by omega), qC (x := x5 + 1) (by omega) (by omega)]
  refine Ev.grd (by simp; omega) (Ev.grd (by simp; omega) (Ev.grd (by simp; omega) (Ev.grd (by simp; omega) ?_)))
  have i := qMj .or (rd ws (Int.toNat (x5 / 64))) (IntKind.wrap .u64 ((IntKind.wrap .u64 (rd l (Int.toNat x5))) * 2 ^ (Nat.min (Int.toNat (x5 % 64)) 64)))
  exact qDY hl x7 x8 x9 m (x5 + 1) (by omega) (by omega) _ (by rw [List.length_set]; exact hw) (hu.set i.1 i.2) (fun n => R (n + 1)) fun ws' h1 h2 => (hR ws' h1 h2).shift
theorem qJ8 {l : List Int} {R : Nat -> Int -> List Int -> Bool -> Prop} (h1 : 1 <= l.length) (h2 : l.length <= 4096) (h : ∀ ws, ws.length = (l.length + 63) / 64 -> Wd ws -> Ev (fun n => R n l.length ws true)) :
  Ev (fun n => Z55.c n l (R n)) := by
 refine Ev.succ ?_
 simp only [Z55.c, Z55.w, Z55.j0]
 refine Ev.pos (by simp; omega) (Ev.neg (by simp; omega) ?_)
 have e : IntKind.wrap .i64 (Int.tdiv (IntKind.wrap .i64 ((l.length : Int) + 63)) 64) = (((l.length + 63) / 64 : Nat) : Int) := by
  rw [qC (x := (l.length : Int) + 63) (by omega) (by omega), qFe (by omega), qC (by omega) (by omega)]; omega
 rw [e]
 refine Ev.grd (by simp; omega) ?_
 rw [Int.toNat_natCast]
 exact qDY h2 _ _ _ l.length 0 (by omega) (by omega) _ (by simp) (Wd.rep _) (fun n y22 y23 y24 y25 => R (n + 1) y25 y22 true) fun ws h3 h4 => (h ws h3 h4).shift
theorem qEc {x10 x11 x12 x17 x18 : Int} {x15 x16 : List Int} (h10 : x10 <= 4096) : ∀ (m : Nat) (x13 : Int), x13 + m = x10 -> 0 <= x13 -> ∀ l : List Int, (l.length : Int) = x13 ->
  ∀ R : Nat -> List Int -> List Int -> List Int -> Int -> Int -> Prop, (∀ l' : List Int, (l'.length : Int) = x10 -> Ev (fun n => R n l' x15 x16 x17 x18)) -> Ev (fun n => Z63.l5 n x10 x11 x12 x15 x16 x17 x18 x13 l (R n))
 | 0, x13, h, h0, l, hl, R, hR => by
  refine Ev.succ ?_
  simp only [Z63.l5, Z63.l5.b]
  exact Ev.neg (by simp; omega) (hR l (by omega)).shift
 | m + 1, x13, h, h0, l, hl, R, hR => by
  have e : ∀ v : Int, Ev (fun n => Z63.l5 n x10 x11 x12 x15 x16 x17 x18 (x13 + 1) (l ++ [v]) (R (n + 1))) :=
   fun v => qEc h10 m (x13 + 1) (by omega) (by omega) (l ++ [v]) (by simp; omega) (fun n => R (n + 1)) fun l' h' => (hR l' h').shift
  refine Ev.succ ?_
  simp only [Z63.l5, Z63.l5.b, Z63.j4]
  rw [qC (x := x13 * 7) (by omega) (by omega), qB7 (by omega), qI4 (by omega) (by omega), qC (x := x13 + 1) (by omega) (by omega)]
  refine Ev.pos (by simp; omega) (Ev.grd (by simp; omega) (Ev.ite (fun _ => Ev.ite (fun _ => ?_) fun _ => ?_) fun _ => Ev.ite (fun _ => ?_) fun _ => ?_))
  all_goals exact Ev.grd (by simp; omega) (e _)
theorem qM8 {bs : List Int} {p m : Int} {R : Nat -> Int -> List Int -> List Int -> Int -> Prop} (hb : xA bs) (hp : Pos bs p) (h1 : 1 <= m) (h2 : m <= 4096)
  (h : ∀ ws q, (ws.length : Int) = (m + 63) / 64 -> Wd ws -> Pos bs q -> Ev (fun n => R n m ws bs q)) : Ev (fun n => Z63.c n bs p m (R n)) := by
 refine Ev.succ ?_
 simp only [Z63.c, Z63.w]
 refine qI8 hb hp fun w q _ _ hq => jX hb hq (by omega) fun r q' _ _ hq' => qEc h2 m.toNat 0 (by omega) (by omega) [] rfl (fun n y33 y34 y35 y36 y37 => Z55.c n y33 (fun r38 r39 r40 => R (n + 1) r38 r39 y35 y36)) fun l hl => ?_
 refine qJ8 (by omega) (by omega) fun ws h3 h4 => ?_
 rw [hl]
 exact (h ws q' (by omega) h4 hq').shift
theorem qDH {l : List Int} (hl : l.length <= 1000000) : ∀ (k : Nat) (o : List Int), k <= l.length -> o = (l.drop k).reverse -> ∀ Kx : Nat -> List Int -> Prop,
  (Ev (fun n => Z71.l3 n l ((k : Int) - 1) o (Kx n)) ↔ Ev (fun n => Kx n l.reverse))
 | 0, o, hk, ho, Kx => by
  refine Ev.suc.trans ?_
  simp only [Z71.l3, Z71.l3.b]
  rw [Ev.iteI, if_neg (by simp), Ev.s1 Kx, ho]; rfl
 | k + 1, o, hk, ho, Kx => by
  have hlen : o.length = l.length - (k + 1) := by rw [ho, List.length_reverse, List.length_drop]
  have e0 : o ++ [rd l k] = (l.drop k).reverse := by
   rw [List.drop_eq_getElem_cons (show k < l.length by omega), List.reverse_cons, <- ho, rd, List.getD_eq_getElem?_getD, List.getElem?_eq_getElem (show k < l.length by omega)]; rfl
  have ih := qDH hl k (o ++ [rd l k]) (by omega) e0 (fun n => Kx (n + 1))
  refine Ev.suc.trans ?_
  simp only [Z71.l3, Z71.l3.b]
  rw [show ((k + 1 : Nat) : Int) - 1 = (k : Int) from by omega, qC (x := (k : Int) - 1) (by omega) (by omega), Int.toNat_natCast, Ev.iteI, if_pos (by simp)]
  have g1 : (0 : Int) <= (k : Int) /\ (k : Int) < (l.length : Int) := ⟨by omega, by omega⟩
  have g2 : o.length + ([rd l k] : List Int).length <= 35184372088832 := by simp; omega
  simp only [qD g1, qT g2]
  exact ih.trans (Ev.s1 Kx _)
theorem qIv {l : List Int} (hl : l.length <= 1000000) (R : Nat -> List Int -> Prop) : Ev (fun n => Z71.c n l (R n)) ↔ Ev (fun n => R n l.reverse) := by
 refine Ev.suc.trans ?_
 simp only [Z71.c, Z71.w]
 rw [qC (by omega) (by omega)]
 exact (qDH hl l.length [] (Nat.le_refl _) (by simp) (fun n => R (n + 1))).trans (Ev.s1 R _)
theorem qLD (c : UInt8) (R : Nat -> Int -> Prop) : Ev (fun n => Z56.c n (c.toNat : Int) (R n)) ↔ Ev (fun n => R n (qLb c.toNat)) := by
 have hc := c.toNat_lt
 have dig_ev : ∀ R : Nat -> Bool -> Prop, Ev (fun n => Z54.c n (c.toNat : Int) (R n)) ↔ Ev (fun n => R n (decide (48 <= c.toNat /\ c.toNat <= 57))) := fun R => by
  refine Ev.suc.trans ?_
  simp only [Z54.c, Z54.w, Ev.iteI, decide_eq_true_eq, Ev.s1 R]
  split
  ·rw [show decide ((c.toNat : Int) <= 57) = decide (48 <= c.toNat /\ c.toNat <= 57) from by rw [decide_eq_decide]; omega]
  ·rw [decide_eq_false (by omega)]
 refine Ev.suc.trans ?_
 simp only [Z56.c, Z56.w]
 rw [dig_ev]
 simp only [Ev.iteI, decide_eq_true_eq]
 unfold qLb
 by_cases h1 : 48 <= c.toNat /\ c.toNat <= 57
 ·rw [if_pos h1, if_pos h1, qLc (by omega) (by omega), qC (by omega) (by omega), Ev.s1 R]
 ·rw [if_neg h1, if_neg h1]
  by_cases h2 : 97 <= c.toNat /\ c.toNat <= 102
  ·rw [if_pos h2, if_pos (by omega), if_pos (by omega), qLc (x := (c.toNat : Int) - 97) (by omega) (by omega), qC (x := (c.toNat : Int) - 97) (by omega) (by omega), qC (by omega) (by omega), Ev.s1 R]
   rw [show (c.toNat : Int) - 97 + 10 = (c.toNat : Int) - 87 from by omega]
  ·rw [if_neg h2]
   split
   ·rw [if_neg (by omega), Ev.s1 R]
   ·rw [Ev.s1 R]
theorem qJ9 {x32 : List UInt8} {x33 x34 : Int} {x37 : List Int} {x38 : Int} : ∀ (m : Nat) (o : List Int), m <= 4 -> o.length + m <= 1000000 -> ∀ Kx : Nat -> List UInt8 -> Int -> List Int -> List Int -> Int -> Prop,
  (∀ y : List Int, y.length = o.length + m -> Ev (fun n => Kx n x32 x33 y x37 x38)) -> Ev (fun n => Z43.l13 n x32 x33 x34 x37 x38 ((m : Int) - 1) o (Kx n))
 | 0, o, hm, ho, Kx, h => by
  refine Ev.succ ?_
  simp only [Z43.l13, Z43.l13.b]
  exact Ev.neg (by simp) (h o rfl).shift
 | m + 1, o, hm, ho, Kx, h => by
  refine Ev.succ ?_
  simp only [Z43.l13, Z43.l13.b]
  rw [show ((m + 1 : Nat) : Int) - 1 = (m : Int) from by omega, qI4 (x := (m : Int)) (by omega) (by omega), qC (x := (m : Int) - 1) (by omega) (by omega)]
  refine Ev.pos (by simp) (Ev.grd (by simp) (Ev.grd (by simp; omega) ?_))
  exact qJ9 m _ (by omega) (by simp; omega) (fun n => Kx (n + 1)) fun y hy => (h y (by rw [hy]; simp; omega)).shift
theorem qHJ {s : List UInt8} (hl : s.length <= 4098) (h2 : 2 <= s.length) (hc1 : ((List.getD s 1 0).toNat : Int) = 98 \/ ((List.getD s 1 0).toNat : Int) = 120) {x69 : List Int} {x70 : Int} :
  ∀ (m i : Nat), i + m = s.length -> 2 <= i -> ∀ o : List Int, o.length = eOf s * (i - 2) -> ∀ (Kx : Nat -> List Int -> List Int -> Int -> Prop) (Kr : Nat -> Bool -> List Int -> Int -> Prop),
  ((s.drop i).all (yL (eOf s)) = true -> ∀ y : List Int, y.length = eOf s * (s.length - 2) -> Ev (fun n => Kx n y x69 x70)) -> ((s.drop i).all (yL (eOf s)) = false -> Ev (fun n => Kr n false [] 0)) ->
  Ev (fun n => Z43.l5 n s i o x69 x70 (Kx n) (Kr n))
 | 0, i, hi, hi2, o, ho, Kx, Kr, hx, hr => by
  refine Ev.succ ?_
  simp only [Z43.l5, Z43.l5.b]
  refine Ev.neg (by simp; omega) (hx (by rw [List.drop_eq_nil_of_le (by omega)]; rfl) o (by rw [ho, show i - 2 = s.length - 2 from by omega])).shift
 | m + 1, i, hi, hi2, o, ho, Kx, Kr, hx, hr => by
  obtain ⟨c, ec⟩ : ∃ c, c = List.getD s i 0 := ⟨_, rfl⟩
  have hdrop : s.drop i = c :: s.drop (i + 1) := by
   rw [List.drop_eq_getElem_cons (show i < s.length by omega), ec, List.getD_eq_getElem?_getD, List.getElem?_eq_getElem (show i < s.length by omega)]; rfl
  have hall : (s.drop i).all (yL (eOf s)) = (yL (eOf s) c && (s.drop (i + 1)).all (yL (eOf s))) := by rw [hdrop, List.all_cons]
  have hob : o.length <= 20000 := by rw [ho]; rcases qH7 s with e | e <;> rw [e] <;> omega
  have hv := qMT c.toNat
  have next : yL (eOf s) c = true -> ∀ y : List Int, y.length = eOf s * (i + 1 - 2) -> Ev (fun n => Z43.l5 n s ((i : Int) + 1) y x69 x70 (Kx (n + 1)) (Kr (n + 1))) := fun hvc y hy => by
   have := qHJ hl h2 hc1 (x69 := x69) (x70 := x70) m (i + 1) (by omega) (by omega) y hy (fun n => Kx (n + 1)) (fun n => Kr (n + 1)) (fun ha y hy => (hx (by rw [hall, hvc, ha]; rfl) y hy).shift) (fun ha => (hr (by rw [hall, hvc, ha]; rfl)).shift)
   rw [Int.natCast_add, Int.natCast_one] at this
   exact this
  have bad : yL (eOf s) c = false -> Ev (fun n => Kr (n + 1) false [] 0) := fun hvc => (hr (by rw [hall, hvc]; rfl)).shift
  refine Ev.succ ?_
  simp only [Z43.l5, Z43.l5.b]
  refine Ev.pos (by simp; omega) (Ev.grd (by simp; omega) ?_)
  rw [Int.toNat_natCast, <- ec, qLD]
  refine Ev.ite (fun hn => Ev.grd (by simp; omega) ?_) fun hn => bad ?_
  ·have hn' : 0 <= qLb c.toNat := by
    have := of_decide_eq_false hn; omega
   have gg : IntKind.wrap .i64 ((i : Int) + 1) = (i : Int) + 1 := qC (by omega) (by omega)
   rcases hc1 with h98 | h120
   ·have ee : eOf s = 1 := by unfold eOf; rw [if_neg (by omega)]
    refine Ev.pos (decide_eq_true h98) (Ev.ite (fun hb => bad ?_) fun hb => ?_)
    ·unfold yL; rw [ee]
     have := of_decide_eq_true hb
     exact decide_eq_false (by simp; omega)
    ·have hb' : ¬ qLb c.toNat > 1 := fun h => hb (decide_eq_true h)
     simp only [Z43.j3]
     refine Ev.grd (by simp; omega) (Ev.pos (decide_eq_true h98) (Ev.grd (by simp; omega) ?_))
     rw [gg]
     refine next ?_ _ ?_
     ·unfold yL; rw [ee]; exact decide_eq_true ⟨hn', by simp; omega⟩
     ·rw [List.length_append, ho, ee]; simp; omega
   ·have ee : eOf s = 4 := by unfold eOf; rw [if_pos h120]
    have hvc : yL (eOf s) c = true := by unfold yL; rw [ee]; exact decide_eq_true ⟨hn', by simpa using hv⟩
    have n98 : ¬ (decide (((List.getD s 1 0).toNat : Int) = 98)) = true := fun h => by
     have := of_decide_eq_true h; omega
    refine Ev.neg n98 ?_
    simp only [Z43.j3]
    refine Ev.grd (by simp; omega) (Ev.neg n98 ?_)
    refine qJ9 (m := 4) o (by omega) (by omega) (fun n y93 y94 y95 y96 y97 => Z43.l5 n y93 (IntKind.wrap .i64 (y94 + 1)) y95 y96 y97 (Kx (n + 1)) (Kr (n + 1))) fun y hy => ?_
    rw [gg]
    exact next hvc y (by rw [hy, ho, ee]; omega)
  ·unfold yL
   have hn' : qLb c.toNat < 0 := by
    rcases Decidable.em (qLb c.toNat < 0) with h | h
    ·exact h
    ·exact absurd (decide_eq_false h) hn
   exact decide_eq_false (by omega)
theorem qHI {s : List UInt8} (hl : s.length <= 100000) {R : Nat -> Int -> List Int -> Bool -> Prop} (h : ∀ w l, Wd l -> l.length <= 64 -> Ev (fun n => R n w l (okT s))) : Ev (fun n => Z43.c n s (R n)) := by
 have e4 : s.length > 4098 -> okT s = false := fun hh => by
  unfold okT
  rw [decide_eq_false (p := eOf s * (s.length - 2) <= 4096) (by rcases qH7 s with e | e <;> rw [e] <;> omega), Bool.and_false, Bool.false_and]
 have ehd : qNj s = false -> okT s = false := fun hh => by unfold okT; rw [hh, Bool.false_and, Bool.false_and]
 have body : s.length <= 4098 -> qNj s = true -> Ev (fun n => Z43.j4 (R (n + 1)) s (Z43.l5 n) n) := fun h1 hh => by
  have hh' := hh
  unfold qNj at hh'
  rw [decide_eq_true_eq] at hh'
  simp only [Z43.j4]
  refine qHJ h1 (by omega) hh'.2.2 (s.length - 2) 2 (by omega) (by omega) [] (by simp) (fun n y107 y108 y109 => Z71.c n y107 (fun r110 => Z55.c n r110 (fun r111 r112 r113 => R (n + 1) r111 r112 r113))) (fun n y114 y115 y116 => R (n + 1) y116 y115 y114) (fun ha y hy => ?_) (fun ha => ?_)
  ·have hyl : y.length <= 20000 := by rw [hy]; rcases qH7 s with e | e <;> rw [e] <;> omega
   have hy1 : 1 <= y.length := by rw [hy]; rcases qH7 s with e | e <;> rw [e] <;> omega
   rw [qIv (by omega)]
   by_cases h4 : eOf s * (s.length - 2) <= 4096
   ·have eo : okT s = true := by unfold okT; rw [hh, decide_eq_true h4, ha]; rfl
    refine qJ8 (by rw [List.length_reverse]; omega) (by rw [List.length_reverse, hy]; omega) fun ws hws1 hws2 => ?_
    have := h ((y.reverse.length : Nat) : Int) ws hws2 (by rw [hws1, List.length_reverse, hy]; omega)
    rw [eo] at this
    exact this.shift
   ·have eo : okT s = false := by unfold okT; rw [decide_eq_false h4, Bool.and_false, Bool.false_and]
    have := h 0 [] Wd.nil (Nat.zero_le _)
    rw [eo] at this
    refine Ev.succ ?_
    simp only [Z55.c, Z55.w]
    refine Ev.pos (by simp; omega) (Ev.pos (by simp; omega) (Ev.shift (P := fun n => R (n + 1) 0 [] false) this.shift))
  ·have eo : okT s = false := by unfold okT; rw [ha, Bool.and_false]
   have := h 0 [] Wd.nil (Nat.zero_le _)
   rw [eo] at this
   exact this.shift
 have no : okT s = false -> Ev (fun n => R (n + 1) 0 [] false) := fun eo => by
  have := h 0 [] Wd.nil (Nat.zero_le _)
  rw [eo] at this
  exact this.shift
 refine Ev.succ ?_
 simp only [Z43.c, Z43.w]
 refine Ev.ite (fun h3 => Ev.ite (fun h5 => ?_) fun h5 => no (e4 ?_)) fun h3 => no (ehd ?_)
 ·have h3' := of_decide_eq_false h3
  have h5' := of_decide_eq_false h5
  refine Ev.grd (by simp; omega) (Ev.ite (fun h0 => Ev.grd (by simp; omega) (Ev.ite (fun h98 => Ev.grd (by simp; omega) (Ev.ite (fun h120 => no (ehd ?_)) fun h120 => body (by omega) ?_)) fun h98 => body (by omega) ?_)) fun h0 => no (ehd ?_))
  all_goals unfold qNj
  ·simp only [Bool.not_eq_true', decide_eq_false_iff_not] at h98 h120
   exact decide_eq_false (by omega)
  ·simp only [Bool.not_eq_true', Bool.not_eq_false', decide_eq_false_iff_not, decide_eq_true_eq, Decidable.not_not] at h98 h120 h0
   exact decide_eq_true ⟨by omega, by omega, by omega⟩
  ·simp only [Bool.not_eq_true', Bool.not_eq_false', decide_eq_false_iff_not, decide_eq_true_eq, Decidable.not_not] at h98 h0
   exact decide_eq_true ⟨by omega, by omega, by omega⟩
  ·simp only [Bool.not_eq_true', Bool.not_eq_false', decide_eq_false_iff_not, decide_eq_true_eq, Decidable.not_not] at h0
   exact decide_eq_false (by omega)
 ·rcases Decidable.em ((s.length : Int) > 4098) with h | h
  ·omega
  ·exact absurd (decide_eq_false h) h5
 ·unfold qNj
  rcases Decidable.em ((s.length : Int) < 3) with h | h
  ·exact decide_eq_false (by omega)
  ·exact absurd (decide_eq_false h) h3
def qL4 : List (List UInt8) := [[99, 97, 116], [112, 97, 114, 116], [122, 101, 114, 111], [115, 105, 103, 110], [108, 101, 102, 116], [114, 105, 103, 104, 116], [114, 101, 112]]
def zT (op : Int) : List UInt8 := rd qL4 (op - 3).toNat
def vX (x : qA) : List (List UInt8) := if x.1 = 3 then [] else if x.1 = 4 then [Go.Lib.itoa x.2.2.1, Go.Lib.itoa x.2.2.2.1] else [Go.Lib.itoa x.2.2.1]
def qCr (d : List qB) (x : qA) (ks : List (List UInt8)) : List UInt8 :=
 if x.1 = 1 then (rd d x.2.1.toNat).1
 else if x.1 = 2 then wtx x.2.2.2.2.1 x.2.2.2.2.2.1
 else ([40] ++ (zT x.1 ++ Go.Lib.joinTail [32] (vX x ++ ks))) ++ [41]
def qL1 (d : List qB) (x : qA) (m : Int) : Prop :=
 (zQ m x.2.2.2.2.2.2 = true /\ x.2.2.2.2.2.2.length <= 4096) /\ ((x.1 = 1 /\ x.2.2.2.2.2.2.length = 0 /\ 0 <= x.2.1 /\ x.2.1 <= (d.length : Int) - 1) \/ (x.1 = 2 /\ x.2.2.2.2.2.2.length = 0) \/
  ((3 <= x.1 /\ x.1 <= 9) /\ (x.1 ≠ 3 -> 0 <= x.2.2.1 /\ x.2.2.1 <= 8192) /\ (x.1 = 4 -> 0 <= x.2.2.2.1 /\ x.2.2.2.1 <= 8192)))
def qDl (d : List qB) : List qA -> Int -> Prop
 | [], _ => True
 | x :: r, m => qL1 d x m /\ qDl d r (m + 1)
theorem qKw {l : List Int} (h : WOk l) : vZ 0 l <= 8192 := by
 rw [qA9 (by omega) (by omega) h]
 split <;> omega
theorem qMB {d : List qB} {x : qA} {wide : List Int} {w : Int} (hw : WOk wide) (h : yH d x wide = some w) : qL1 d x wide.length := by
 have h' := h
 unfold yH at h
 split at h
 ·rename_i hc
  have hk := qCj hw hc.1
  have e := qJl (d := d) (x := x) hk (by simp)
  have hcap := qKw hk
  rw [if_pos hc.2.2, h] at e
  obtain ⟨a1, a2, a3⟩ := qIl h
  rw [<- a1] at a2 a3
  split at e
  ·rename_i hl
   have hkb := hc.2.2
   rw [wT, decide_eq_true_eq] at hkb
   refine ⟨⟨hc.1, hl⟩, ?_⟩
   rcases hkb with ⟨h1, h2, h3, h4⟩ | ⟨h1, h2, h3⟩ | ⟨h1, h2⟩ | ⟨h1, h2, h3⟩
   ·exact .inl ⟨h1, h2, h3, h4⟩
   ·exact .inr (.inl ⟨h1, h2⟩)
   ·exact .inr (.inr ⟨by omega, fun hn => absurd h1 hn, fun h4 => by omega⟩)
   ·refine .inr (.inr ⟨by omega, ?_⟩)
    unfold qAh at a1
    rw [if_neg (by omega), if_neg (by omega)] at a1
    by_cases c4 : x.1 = 4
    ·rw [if_pos c4] at a1
     split at a1
     ·omega
     ·rename_i hn
      simp only [not_or] at hn
      exact ⟨fun _ => by omega, fun _ => by omega⟩
    ·rw [if_neg c4] at a1
     refine ⟨fun _ => ?_, fun h => absurd h c4⟩
     by_cases c5 : x.1 = 5 \/ x.1 = 6
     ·rw [if_pos c5] at a1
      split at a1 <;> omega
     ·rw [if_neg c5] at a1
      by_cases c7 : x.1 = 7 \/ x.1 = 8
      ·rw [if_pos c7] at a1
       split at a1 <;> omega
      ·rw [if_neg c7, if_pos (by omega)] at a1
       split at a1 <;> omega
  ·cases e
 ·cases h
theorem qDG {d : List qB} : ∀ {ys : List qA} {wide : List Int} {used : List Bool} {r : List Int × List Bool}, WOk wide -> jH d ys wide used = some r -> qDl d ys wide.length
 | [], wide, used, r, hw, h => trivial
 | x :: ys, wide, used, r, hw, h => by
  rw [jH] at h
  cases hs : yH d x wide with
  | none => rw [hs] at h; cases h
  | some w =>
   rw [hs] at h
   have := qDG (hw.app (qHy hs)) h
   rw [List.length_append, List.length_singleton] at this
   exact ⟨qMB hw hs, this⟩
def nbI (op : Int) : Int := if op = 3 then 0 else if op = 4 then 2 else 1
theorem qEl (a b : List (List UInt8)) : Go.Lib.joinTail [32] (a ++ b) = Go.Lib.joinTail [32] a ++ Go.Lib.joinTail [32] b := by
 simp [Go.Lib.joinTail]
def qIL (l : List (List UInt8)) : Nat := (l.map List.length).sum
theorem qJj : ∀ (l : List (List UInt8)), qIL l <= (Go.Lib.joinTail [32] l).length
 | [] => by simp [qIL]
 | s :: l => by
  have := qJj l
  simp only [qIL, Go.Lib.joinTail, List.map_cons, List.flatten_cons, List.length_append, List.sum_cons, List.length_cons, List.length_nil] at this ⊢
  omega
theorem qDD (op : Int) : (zT op).length <= 5 := by
 unfold zT
 generalize (op - 3).toNat = k
 match k with
 | 0 | 1 | 2 | 3 | 4 | 5 | 6 => decide
 | k + 7 =>
  simp only [rd, qL4, List.getD_cons_succ, List.getD_nil]
  exact Nat.zero_le _
def jP (acc : List (List UInt8)) (ks : List Int) : List (List UInt8) := ks.map fun k => rd acc k.toNat
def wP (d : List qB) : List qA -> List (List UInt8) -> List (List UInt8)
 | [], acc => acc
 | x :: r, acc => wP d r (acc ++ [qCr d x (jP acc x.2.2.2.2.2.2)])
def xL (d : List qB) : List qA -> List (List UInt8) -> Bool
 | [], _ => true
 | x :: r, acc => decide ((qCr d x (jP acc x.2.2.2.2.2.2)).length <= 20000) && xL d r (acc ++ [qCr d x (jP acc x.2.2.2.2.2.2)])
theorem qFd {d : List qB} : ∀ {ys : List qA} {acc : List (List UInt8)}, (wP d ys acc).length = acc.length + ys.length
 | [], acc => rfl
 | x :: ys, acc => by rw [wP, qFd, List.length_append, List.length_singleton, List.length_cons]; omega
def qI3 (d : List qB) (t : List qA) : List UInt8 :=
 if xH d t < 0 then [] else if xL d t [] = true then rd (wP d t []) (t.length - 1) else []
theorem qJb {d : List qB} {t : List qA} (h : ¬ xH d t < 0) : jL d = true /\ qDl d t 0 /\ 1 <= t.length /\ t.length <= 400 /\ ∃ r, jH d t [] (List.replicate t.length false) = some r /\ (r.2.take (t.length - 1)).all id = true := by
 rw [xH] at h
 split at h
 ·rename_i hd
  rw [zE] at h
  split at h
  ·rename_i hw
   have hw' := hw
   unfold zL at hw
   split at hw
   ·rename_i hl
    cases hg : jH d t [] (List.replicate t.length false) with
    | none => rw [hg] at hw; cases hw
    | some r =>
     rw [hg] at hw
     exact ⟨hd, qDG (wide := []) (fun w hw => by cases hw) hg, hl.1, hl.2, r, rfl, hw⟩
   ·cases hw
  ·exact absurd (by decide) h
 ·exact absurd (by decide) h
def sz1 (s : List UInt8) : Nat := min s.length 20001
def szI (s : List UInt8) : Int := (sz1 s : Int)
def qGz : List (List UInt8) -> Nat
 | [] => 0
 | s :: l => 1 + sz1 s + qGz l
theorem qCs : ∀ {s : List UInt8} {l : List (List UInt8)}, (Go.Lib.joinTail [32] (s :: l)).length = 1 + s.length + (Go.Lib.joinTail [32] l).length := by
 intro s l
 simp only [Go.Lib.joinTail, List.map_cons, List.flatten_cons, List.length_append, List.length_cons, List.length_nil]
theorem qKv : ∀ (l : List (List UInt8)) (a b : Nat), (a = b \/ (20001 <= a /\ 20001 <= b)) -> min (a + qGz l) 20001 = min (b + (Go.Lib.joinTail [32] l).length) 20001
 | [], a, b, h => by
  have : (Go.Lib.joinTail [32] ([] : List (List UInt8))).length = 0 := rfl
  rw [this, qGz]
  omega
 | s :: l, a, b, h => by
  have ih := qKv l (a + 1 + sz1 s) (b + 1 + s.length) (by unfold sz1; omega)
  rw [qCs, qGz, show a + (1 + sz1 s + qGz l) = a + 1 + sz1 s + qGz l from by omega, ih]
  omega
theorem qKK : ∀ (l : List (List UInt8)), qGz l <= 20002 * l.length
 | [] => by simp [qGz]
 | s :: l => by
  have := qKK l
  rw [qGz, List.length_cons]
  unfold sz1; omega
theorem wJ {op : Int} (h1 : 3 <= op) (R : Nat -> Int -> Prop) : Ev (fun n => Z87.c n op (R n)) ↔ Ev (fun n => R n (nbI op)) := by
 refine Ev.suc.trans ?_
 simp only [Z87.c, Z87.w, Ev.iteI, decide_eq_true_eq, Ev.s1 R, nbI]
 by_cases h : op = 4
 ·rw [if_pos h, if_neg (show ¬ op = 3 by omega), if_pos h]
 ·rw [if_neg h]
  by_cases h3 : op = 3
  ·rw [if_neg (by omega), if_pos h3]
  ·rw [if_pos (by omega), if_neg h3, if_neg h]
theorem qGC {op : Int} (h1 : 3 <= op) (h2 : op <= 9) (R : Nat -> List UInt8 -> Prop) : Ev (fun n => Z94.c n op (R n)) ↔ Ev (fun n => R n (zT op)) := by
 refine Ev.suc.trans ?_
 simp only [Z94.c, Z94.w]
 have g : (0 : Int) <= op /\ op < ((([([] : List UInt8), ([] : List UInt8), ([] : List UInt8), ([99, 97, 116] : List UInt8), ([112, 97, 114, 116] : List UInt8), ([122, 101, 114, 111] : List UInt8), ([115, 105, 103, 110] : List UInt8), ([108, 101, 102, 116] : List UInt8), ([114, 105, 103, 104, 116] : List UInt8), ([114, 101, 112] : List UInt8)] : List (List UInt8)).length : Nat) : Int) := ⟨by omega, by simp; omega⟩
 simp only [qD g]
 have e : rd ([([] : List UInt8), ([] : List UInt8), ([] : List UInt8), ([99, 97, 116] : List UInt8), ([112, 97, 114, 116] : List UInt8), ([122, 101, 114, 111] : List UInt8), ([115, 105, 103, 110] : List UInt8), ([108, 101, 102, 116] : List UInt8), ([114, 105, 103, 104, 116] : List UInt8), ([114, 101, 112] : List UInt8)] : List (List UInt8)) op.toNat = zT op := by
  rw [zT]
  obtain ⟨k, hk⟩ : ∃ k : Nat, op.toNat = k + 3 := ⟨op.toNat - 3, by omega⟩
  rw [hk, show (op - 3).toNat = k from by omega]; rfl
 rw [e]
 exact Ev.s1 R _
theorem qMb {acc : List (List UInt8)} {k : Nat} (h : k < acc.length) : rd (acc.map szI) k = szI (rd acc k) := by
 rw [rd, rd, List.getD_eq_getElem?_getD, List.getD_eq_getElem?_getD, List.getElem?_map, List.getElem?_eq_getElem h]; rfl
theorem qFq {d : List qB} {i : Int} {acc : List (List UInt8)} {t : List qA} {x42 x43 x44 x45 x46 : Int} {x47 ks : List Int} (hl : ks.length <= 4096) :
  ∀ (ys : List Int) (j : Int) (s : Nat), ks.drop j.toNat = ys -> 0 <= j -> s + 20002 * ys.length <= 1000000000 -> zQ acc.length ys = true ->
  ∀ Kx : Nat -> List qB -> Int -> Int -> List Int -> List qA -> Prop,
  (Ev (fun n => Z89.l18 n d i (acc.map szI) t x42 x43 x44 x45 x46 x47 ks s j (Kx n)) ↔ Ev (fun n => Kx n d i ((s + qGz (jP acc ys) : Nat) : Int) (acc.map szI) t))
 | [], j, s, h, h0, hs, hk, Kx => by
  have := qY h h0
  refine Ev.suc.trans ?_
  simp only [Z89.l18, Z89.l18.b]
  rw [Ev.iteI, if_neg (by simp; omega)]
  exact (Ev.suc (P := fun n => Kx n d i ((s : Nat) : Int) (acc.map szI) t)).symm
 | y :: ys, j, s, h, h0, hs, hk, Kx => by
  obtain ⟨e1, e2, e3⟩ := qQ h h0
  rw [wC] at hk
  obtain ⟨⟨k1, k2⟩, k3⟩ := hk
  rw [List.length_cons] at hs
  have hsz : sz1 (rd acc y.toNat) <= 20001 := by unfold sz1; omega
  have ih := qFq hl (d := d) (i := i) (t := t) (x42 := x42) (x43 := x43) (x44 := x44) (x45 := x45) (x46 := x46) (x47 := x47) ys (j + 1) (s + 1 + sz1 (rd acc y.toNat)) e3 (by omega) (by omega) k3 (fun n => Kx (n + 1))
  have hr : rd (acc.map szI) y.toNat = ((sz1 (rd acc y.toNat) : Nat) : Int) := qMb (by omega)
  refine Ev.suc.trans ?_
  simp only [Z89.l18, Z89.l18.b, e2, hr]
  rw [Ev.iteI, if_pos (by simp; omega)]
  have g1 : 0 <= j /\ j < (ks.length : Int) := ⟨h0, e1⟩
  have g2 : 0 <= y /\ y < ((acc.map szI).length : Int) := ⟨k1, by rw [List.length_map]; omega⟩
  simp only [qD g1, qD g2]
  rw [qC (x := (s : Int) + 1) (by omega) (by omega), qC (x := (s : Int) + 1 + ((sz1 (rd acc y.toNat) : Nat) : Int)) (by omega) (by omega), qC (x := j + 1) (by omega) (by omega)]
  refine ih.trans ?_
  rw [show s + qGz (jP acc (y :: ys)) = s + 1 + sz1 (rd acc y.toNat) + qGz (jP acc ys) from by simp only [jP, List.map_cons, qGz]; omega]
  exact (Ev.suc (P := fun n => Kx n d i _ (acc.map szI) t)).symm
theorem qHz {d : List qB} {t : List qA} (ht : t.length <= 400) (hd : ∀ y ∈ d, y.1.length <= 100) : ∀ (ys : List qA) (acc : List (List UInt8)), t.drop acc.length = ys -> acc.length + ys.length = t.length -> (∀ x ∈ ys, Wd x.2.2.2.2.2.1) -> qDl d ys acc.length ->
  ∀ Kx : Nat -> List Int -> Prop, (Ev (fun n => Z89.l3 n d acc.length (acc.map szI) t (Kx n)) ↔ Ev (fun n => Kx n ((wP d ys acc).map szI)))
 | [], acc, h, hl, hw, hn, Kx => by
  rw [List.length_nil, Nat.add_zero] at hl
  refine Ev.suc.trans ?_
  simp only [Z89.l3, Z89.l3.b]
  rw [Ev.iteI, if_neg (by simp; omega), wP, Ev.s1 Kx]
 | x :: ys, acc, h, hl, hw, hn, Kx => by
  obtain ⟨e1, e2, e3⟩ := qQ (x := (acc.length : Int)) (by simpa using h) (by omega)
  rw [Int.toNat_natCast] at e2
  rw [show ((acc.length : Int) + 1).toNat = acc.length + 1 from by omega] at e3
  rw [List.length_cons] at hl
  obtain ⟨n1, n2⟩ := hn
  have hk := n1.1.1
  have hkl := n1.1.2
  have hkn : (jP acc x.2.2.2.2.2.2).length <= 4096 := by rw [jP, List.length_map]; exact hkl
  obtain ⟨T, eT⟩ : ∃ T, T = qCr d x (jP acc x.2.2.2.2.2.2) := ⟨_, rfl⟩
  have ih := qHz ht hd ys (acc ++ [T]) (by simpa using e3) (by simp; omega) (fun y hy => hw y (List.mem_cons_of_mem _ hy)) (by rw [List.length_append, List.length_singleton]; exact n2) (fun n => Kx (n + 1))
  have fin : ∀ (b : Nat), b <= 3000000 -> min (b + qGz (jP acc x.2.2.2.2.2.2)) 20001 = min T.length 20001 ->
    (Ev (fun n => Z89.j10 (fun x115q x116q x117q x118q => Z89.l3 n x115q x116q x117q x118q (Kx (n + 1))) (Z89.l18 n) x.2.2.2.2.2.1 x.2.2.2.2.2.2 d acc.length (acc.map szI) t b) ↔ Ev (fun n => Kx n ((wP d (x :: ys) acc).map szI))) := fun b hb hm => by
   have hc := qKK (jP acc x.2.2.2.2.2.2)
   have lp := qFq (d := d) (i := (acc.length : Int)) (acc := acc) (t := t) (x42 := x.1) (x43 := x.2.1) (x44 := x.2.2.1) (x45 := x.2.2.2.1) (x46 := x.2.2.2.2.1) (x47 := x.2.2.2.2.2.1) hkl x.2.2.2.2.2.2 0 b rfl (by omega) (by omega) hk
   simp only [Z89.j10, Int.toNat_natCast, e2]
   refine (lp _).trans ?_
   have ez : (if (20001 : Int) < ((b + qGz (jP acc x.2.2.2.2.2.2) : Nat) : Int) then (20001 : Int) else ((b + qGz (jP acc x.2.2.2.2.2.2) : Nat) : Int)) = szI T := by
    unfold szI sz1
    rw [<- hm]
    split <;> omega
   rw [ez]
   have g : (acc.map szI).length + ([szI T] : List Int).length <= 7818749353073 := by simp; omega
   simp only [qT g]
   rw [qC (x := (acc.length : Int) + 1) (by omega) (by omega)]
   rw [List.length_append, List.length_singleton, List.map_append, List.map_singleton] at ih
   refine ih.trans ?_
   rw [wP, <- eT, Ev.s1 Kx]
  refine Ev.suc.trans ?_
  simp only [Z89.l3, Z89.l3.b, Int.toNat_natCast, e2]
  rw [Ev.iteI, if_pos (by simp; omega)]
  have g1 : (0 : Int) <= (acc.length : Int) /\ (acc.length : Int) < (t.length : Int) := ⟨by omega, by omega⟩
  simp only [qD g1, Ev.iteI, decide_eq_true_eq]
  rcases n1.2 with ⟨h1, h2, h3, h4⟩ | ⟨h1, h2⟩ | ⟨⟨h1, h2⟩, h3, h4⟩
  ·have g : (0 : Int) <= x.2.1 /\ x.2.1 < (d.length : Int) := ⟨h3, by omega⟩
   have hdx := hd (rd d x.2.1.toNat) (by rw [rd, List.getD_eq_getElem?_getD, List.getElem?_eq_getElem (show x.2.1.toNat < d.length by omega)]; exact List.getElem_mem _)
   rw [if_pos h1]
   simp only [qD g]
   refine fin _ (by omega) ?_
   rw [eT, qCr, if_pos h1, jP, List.eq_nil_of_length_eq_zero h2]; rfl
  ·have hlw := qMw x.2.2.2.2.1 x.2.2.2.2.2.1
   rw [if_neg (by omega), if_pos h1, qE3 (hw x List.mem_cons_self)]
   refine fin _ (by omega) ?_
   rw [eT, qCr, if_neg (by omega), if_pos h1, jP, List.eq_nil_of_length_eq_zero h2]; rfl
  ·have hwl := qDD x.1
   have hT : T.length = 2 + (zT x.1).length + (Go.Lib.joinTail [32] (vX x)).length + (Go.Lib.joinTail [32] (jP acc x.2.2.2.2.2.2)).length := by
    rw [eT, qCr, if_neg (by omega), if_neg (by omega), qEl]
    simp only [List.length_append, List.length_cons, List.length_nil]
    omega
   have fin2 : ∀ b : Nat, b = 2 + (zT x.1).length + (Go.Lib.joinTail [32] (vX x)).length -> b <= 3000000 -> _ := fun b hb h5 => fin b h5 (by
    rw [hT, <- hb]
    exact qKv _ _ _ (.inl rfl))
   rw [if_neg (by omega), if_neg (by omega), qGC h1 h2, wJ h1]
   simp only [Ev.iteI, decide_eq_true_eq, Z89.j11, Int.toNat_natCast, e2]
   rw [qC (x := 2 + ((zT x.1).length : Int)) (by omega) (by omega)]
   by_cases c3 : x.1 = 3
   ·have e : nbI x.1 = 0 := by rw [nbI, if_pos c3]
    have en : vX x = [] := by rw [vX, if_pos c3]
    rw [e, if_neg (by decide), wJ h1, e]
    simp only [Ev.iteI, decide_eq_true_eq]
    rw [if_neg (by decide)]
    exact fin2 (2 + (zT x.1).length) (by rw [en]; rfl) (by omega)
   ·obtain ⟨a1, a2⟩ := h3 c3
    have hA := qCk a1 (show x.2.2.1 <= 1000000 by omega)
    by_cases c4 : x.1 = 4
    ·obtain ⟨b1, b2⟩ := h4 c4
     have hB := qCk b1 (show x.2.2.2.1 <= 1000000 by omega)
     have e : nbI x.1 = 2 := by rw [nbI, if_neg c3, if_pos c4]
     have en : vX x = [Go.Lib.itoa x.2.2.1, Go.Lib.itoa x.2.2.2.1] := by rw [vX, if_neg c3, if_pos c4]
     rw [e, if_pos (by decide), qD8 a1 (by omega), wJ h1, e]
     simp only [Ev.iteI, decide_eq_true_eq]
     rw [if_pos (by decide), qD8 b1 (by omega), qC (x := 2 + ((zT x.1).length : Int) + 1) (by omega) (by omega), qC (x := 2 + ((zT x.1).length : Int) + 1 + ((Go.Lib.itoa x.2.2.1).length : Int)) (by omega) (by omega),
      qC (x := 2 + ((zT x.1).length : Int) + 1 + ((Go.Lib.itoa x.2.2.1).length : Int) + 1) (by omega) (by omega), qC (by omega) (by omega)]
     have := fin2 (2 + (zT x.1).length + 1 + (Go.Lib.itoa x.2.2.1).length + 1 + (Go.Lib.itoa x.2.2.2.1).length) (by rw [en, qCs, qCs]; show _ = _ + (1 + _ + (1 + _ + 0)); omega) (by omega)
     exact this
    ·have e : nbI x.1 = 1 := by rw [nbI, if_neg c3, if_neg c4]
     have en : vX x = [Go.Lib.itoa x.2.2.1] := by rw [vX, if_neg c3, if_neg c4]
     rw [e, if_pos (by decide), qD8 a1 (by omega), wJ h1, e]
     simp only [Ev.iteI, decide_eq_true_eq]
     rw [if_neg (by decide), qC (x := 2 + ((zT x.1).length : Int) + 1) (by omega) (by omega), qC (by omega) (by omega)]
     have := fin2 (2 + (zT x.1).length + 1 + (Go.Lib.itoa x.2.2.1).length) (by rw [en, qCs]; show _ = _ + (1 + _ + 0); omega) (by omega)
     exact this
theorem xI {d : List qB} : ∀ {ys : List qA} {acc : List (List UInt8)} {j : Nat}, j < acc.length -> rd (wP d ys acc) j = rd acc j
 | [], acc, j, h => rfl
 | x :: ys, acc, j, h => by rw [wP, xI (by rw [List.length_append]; omega), qHK h]
theorem qJX {a b : List (List UInt8)} {m : Nat} {ks : List Int} (h : ∀ j, j < m -> rd a j = rd b j) (hk : zQ m ks = true) : jP a ks = jP b ks := by
 unfold jP
 refine List.map_congr_left fun k hk' => ?_
 rw [zQ, List.all_eq_true] at hk
 have := hk k hk'
 rw [decide_eq_true_eq] at this
 exact h _ (by omega)
theorem qEk {d : List qB} : ∀ {ys : List qA} {acc : List (List UInt8)}, qDl d ys acc.length -> ∀ j, j < ys.length -> qL1 d (rd ys j) ((acc.length + j : Nat) : Int) /\ rd (wP d ys acc) (acc.length + j) = qCr d (rd ys j) (jP (wP d ys acc) (rd ys j).2.2.2.2.2.2)
 | [], acc, hn, j, h => absurd h (Nat.not_lt_zero _)
 | x :: ys, acc, hn, 0, h => by
  obtain ⟨n1, n2⟩ := hn
  have e0 : rd (x :: ys) 0 = x := rfl
  rw [e0, Nat.add_zero, wP, xI (by simp)]
  refine ⟨n1, ?_⟩
  have e1 : rd (acc ++ [qCr d x (jP acc x.2.2.2.2.2.2)]) acc.length = qCr d x (jP acc x.2.2.2.2.2.2) := by
   rw [rd, List.getD_eq_getElem?_getD, List.getElem?_append_right (Nat.le_refl _), Nat.sub_self]; rfl
  rw [e1]
  congr 1
  refine qJX (m := acc.length) (fun j hj => ?_) n1.1.1
  rw [xI (by simp; omega), qHK hj]
 | x :: ys, acc, hn, j + 1, h => by
  obtain ⟨n1, n2⟩ := hn
  have := qEk (ys := ys) (acc := acc ++ [qCr d x (jP acc x.2.2.2.2.2.2)]) (by rw [List.length_append, List.length_singleton]; exact n2) j (by simpa using h)
  rw [List.length_append, List.length_singleton, Nat.add_assoc, Nat.add_comm 1 j] at this
  exact this
theorem qMh {d : List qB} {x : qA} {m : Int} {T : List (List UInt8)} (h : qL1 d x m) {k : Int} (hk : k ∈ x.2.2.2.2.2.2) : (rd T k.toNat).length <= (qCr d x (jP T x.2.2.2.2.2.2)).length := by
 have hm : rd T k.toNat ∈ jP T x.2.2.2.2.2.2 := List.mem_map.2 ⟨k, hk, rfl⟩
 have h1 : ∀ {l : List (List UInt8)} {s : List UInt8}, s ∈ l -> s.length <= qIL l := by
  intro l
  induction l with
  | nil => intro s hs; cases hs
  | cons z l ih =>
   intro s hs
   rcases List.mem_cons.1 hs with rfl | hs
   ·simp [qIL]
   ·have := ih hs; simp only [qIL, List.map_cons, List.sum_cons] at this ⊢; omega
 have h2 := h1 hm
 have h3 := qJj (jP T x.2.2.2.2.2.2)
 rcases h.2 with ⟨_, h4, _⟩ | ⟨_, h4⟩ | ⟨⟨h4, _⟩, _⟩
 ·rw [List.eq_nil_of_length_eq_zero h4] at hk; cases hk
 ·rw [List.eq_nil_of_length_eq_zero h4] at hk; cases hk
 ·rw [qCr, if_neg (by omega), if_neg (by omega), qEl]
  simp only [List.length_append, List.length_cons, List.length_nil]
  omega
theorem qHX {d : List qB} {t : List qA} {T : List (List UInt8)} {x33 x34 x35 x36 x37 : Int} {x38 ks : List Int} (hl : ks.length <= 4096) :
  ∀ (ys : List Int) (j : Int) (s : List UInt8), ks.drop j.toNat = ys -> 0 <= j -> s.length + (Go.Lib.joinTail [32] (jP T ys)).length <= 1000000000 ->
  (∀ k ∈ ys, 0 <= k /\ ∀ R : Nat -> List UInt8 -> Prop, Ev (fun n => Z91.c n d t k (R n)) ↔ Ev (fun n => R n (rd T k.toNat))) ->
  ∀ Kx : Nat -> List UInt8 -> Prop, (Ev (fun n => Z91.l13 n d t x33 x34 x35 x36 x37 x38 ks s j (Kx n)) ↔ Ev (fun n => Kx n (s ++ Go.Lib.joinTail [32] (jP T ys))))
 | [], j, s, h, h0, hs, hk, Kx => by
  have := qY h h0
  refine Ev.suc.trans ?_
  simp only [Z91.l13_s, Z91.l13.b]
  rw [Ev.iteI, if_neg (by simp; omega)]
  have : s ++ Go.Lib.joinTail [32] (jP T []) = s := by
   show s ++ [] = s
   exact List.append_nil s
  rw [this, Ev.s1 Kx]
 | y :: ys, j, s, h, h0, hs, hk, Kx => by
  obtain ⟨e1, e2, e3⟩ := qQ h h0
  obtain ⟨k1, k2⟩ := hk y List.mem_cons_self
  have ec : jP T (y :: ys) = rd T y.toNat :: jP T ys := rfl
  rw [ec, qCs] at hs
  have ej : Go.Lib.joinTail [32] (rd T y.toNat :: jP T ys) = ([32] ++ rd T y.toNat) ++ Go.Lib.joinTail [32] (jP T ys) := by
   simp [Go.Lib.joinTail]
  have ih := qHX hl (d := d) (t := t) (T := T) (x33 := x33) (x34 := x34) (x35 := x35) (x36 := x36) (x37 := x37) (x38 := x38) ys (j + 1) ((s ++ [32]) ++ rd T y.toNat) e3 (by omega) (by simp; omega) (fun k hk' => hk k (List.mem_cons_of_mem _ hk')) (fun n => Kx (n + 1))
  refine Ev.suc.trans ?_
  simp only [Z91.l13_s, Z91.l13.b, e2]
  rw [Ev.iteI, if_pos (by simp; omega)]
  have g1 : s.length + ([32] : List UInt8).length <= 9223372036854775807 := by simp; omega
  have g2 : 0 <= j /\ j < (ks.length : Int) := ⟨h0, e1⟩
  simp only [qT g1, qD g2]
  rw [k2]
  have g3 : (s ++ ([32] : List UInt8)).length + (rd T y.toNat).length <= 9223372036854775807 := by simp; omega
  simp only [qT g3]
  rw [qC (x := j + 1) (by omega) (by omega)]
  refine ih.trans ?_
  rw [Ev.s1 Kx, ec, ej]
  simp only [List.append_assoc]
theorem qFV {d : List qB} {t : List qA} (ht : t.length <= 400) (hy : ∀ x ∈ t, Wd x.2.2.2.2.2.1) (hn : qDl d t 0) : ∀ (f i : Nat), i < f -> i < t.length -> (rd (wP d t []) i).length <= 20000 -> ∀ R : Nat -> List UInt8 -> Prop,
  Ev (fun n => Z91.c n d t i (R n)) ↔ Ev (fun n => R n (rd (wP d t []) i))
 | 0, i, hf, hi, hs, R => by omega
 | f + 1, i, hf, hi, hs, R => by
  obtain ⟨n1, e1⟩ := qEk (d := d) (ys := t) (acc := []) hn i hi
  simp only [List.length_nil, Nat.zero_add] at n1 e1
  obtain ⟨x, ex⟩ : ∃ x, x = rd t i := ⟨_, rfl⟩
  obtain ⟨T, eT⟩ : ∃ T, T = wP d t [] := ⟨_, rfl⟩
  have hw : Wd x.2.2.2.2.2.1 := by
   refine hy x ?_
   rw [ex, rd, List.getD_eq_getElem?_getD, List.getElem?_eq_getElem hi]; exact List.getElem_mem hi
  have hrec : ∀ k ∈ x.2.2.2.2.2.2, 0 <= k /\ ∀ R : Nat -> List UInt8 -> Prop, Ev (fun n => Z91.c n d t k (R n)) ↔ Ev (fun n => R n (rd T k.toNat)) := fun k hk => by
   have hk2 := n1.1.1
   rw [<- ex, zQ, List.all_eq_true] at hk2
   have := hk2 k hk
   rw [decide_eq_true_eq] at this
   refine ⟨this.1, fun R => ?_⟩
   have hle := qMh (T := T) n1 (k := k) (by rw [<- ex]; exact hk)
   rw [eT, <- e1] at hle
   have := qFV ht hy hn f k.toNat (by omega) (by omega) (by omega) R
   rw [Int.toNat_of_nonneg (by omega)] at this
   rw [eT]; exact this
  rw [<- eT, <- ex] at e1
  rw [<- ex] at n1
  rw [<- eT] at hs ⊢
  rw [e1] at hs ⊢
  refine Ev.suc.trans ?_
  simp only [Z91.c_s, Z91.w, Int.toNat_natCast, <- ex]
  have g1 : (0 : Int) <= (i : Int) /\ (i : Int) < (t.length : Int) := ⟨by omega, by omega⟩
  simp only [qD g1, Ev.iteI, decide_eq_true_eq]
  rcases n1.2 with ⟨h1, h2, h3, h4⟩ | ⟨h1, h2⟩ | ⟨⟨h1, h2⟩, h3, h4⟩
  ·have g : (0 : Int) <= x.2.1 /\ x.2.1 < (d.length : Int) := ⟨h3, by omega⟩
   rw [if_pos h1]
   simp only [qD g]
   rw [Ev.s1 R, qCr, if_pos h1]
  ·rw [if_neg (by omega), if_pos h1, qE3 hw, Ev.s1 R, qCr, if_neg (by omega), if_pos h1]
  ·have hwl := qDD x.1
   have hT : (qCr d x (jP T x.2.2.2.2.2.2)) = (([40] ++ zT x.1 ++ Go.Lib.joinTail [32] (vX x)) ++ Go.Lib.joinTail [32] (jP T x.2.2.2.2.2.2)) ++ [41] := by
    rw [qCr, if_neg (by omega), if_neg (by omega), qEl]
    simp only [List.append_assoc]
   have hlen : (qCr d x (jP T x.2.2.2.2.2.2)).length = 2 + (zT x.1).length + (Go.Lib.joinTail [32] (vX x)).length + (Go.Lib.joinTail [32] (jP T x.2.2.2.2.2.2)).length := by
    rw [hT]
    simp only [List.length_append, List.length_cons, List.length_nil]
    omega
   have fin : ∀ s : List UInt8, s = [40] ++ zT x.1 ++ Go.Lib.joinTail [32] (vX x) -> (Ev (fun n => Z91.j0 (R (n + 1)) d t i (Z91.l13 n) s) ↔ Ev (fun n => R n (qCr d x (jP T x.2.2.2.2.2.2)))) := fun s hse => by
    have hsl : s.length = 1 + (zT x.1).length + (Go.Lib.joinTail [32] (vX x)).length := by
     rw [hse]; simp only [List.length_append, List.length_cons, List.length_nil]
    have lp := qHX (d := d) (t := t) (T := T) (x33 := x.1) (x34 := x.2.1) (x35 := x.2.2.1) (x36 := x.2.2.2.1) (x37 := x.2.2.2.2.1) (x38 := x.2.2.2.2.2.1) n1.1.2 x.2.2.2.2.2.2 0 s rfl (by omega) (by omega) hrec
    simp only [Z91.j0, Int.toNat_natCast, <- ex]
    refine (lp _).trans ?_
    have g : (s ++ Go.Lib.joinTail [32] (jP T x.2.2.2.2.2.2)).length + ([41] : List UInt8).length <= 9223372036854775807 := by simp; omega
    simp only [qT g]
    rw [Ev.s1 R, hT, hse]
   rw [if_neg (by omega), if_neg (by omega), qGC h1 h2]
   have g1 : ([40] : List UInt8).length + (zT x.1).length <= 9223372036854775807 := by simp; omega
   simp only [qT g1]
   rw [wJ h1]
   simp only [Ev.iteI, decide_eq_true_eq, Z91.j1, Int.toNat_natCast, <- ex]
   by_cases c3 : x.1 = 3
   ·have e : nbI x.1 = 0 := by rw [nbI, if_pos c3]
    have en : vX x = [] := by rw [vX, if_pos c3]
    rw [e, if_neg (by decide), wJ h1, e]
    simp only [Ev.iteI, decide_eq_true_eq]
    rw [if_neg (by decide)]
    exact fin _ (by rw [en]; exact (List.append_nil _).symm)
   ·obtain ⟨a1, a2⟩ := h3 c3
    have hA := qCk a1 (show x.2.2.1 <= 1000000 by omega)
    have g2 : (([40] : List UInt8) ++ zT x.1).length + ([32] : List UInt8).length <= 9223372036854775807 := by simp; omega
    have g3 : ((([40] : List UInt8) ++ zT x.1) ++ ([32] : List UInt8)).length + (Go.Lib.itoa x.2.2.1).length <= 9223372036854775807 := by simp; omega
    by_cases c4 : x.1 = 4
    ·obtain ⟨b1, b2⟩ := h4 c4
     have hB := qCk b1 (show x.2.2.2.1 <= 1000000 by omega)
     have e : nbI x.1 = 2 := by rw [nbI, if_neg c3, if_pos c4]
     have en : vX x = [Go.Lib.itoa x.2.2.1, Go.Lib.itoa x.2.2.2.1] := by rw [vX, if_neg c3, if_pos c4]
     rw [e, if_pos (by decide)]
     simp only [qT g2]
     rw [qD8 a1 (by omega)]
     simp only [qT g3]
     rw [wJ h1, e]
     simp only [Ev.iteI, decide_eq_true_eq]
     rw [if_pos (by decide)]
     have g4 : (((([40] : List UInt8) ++ zT x.1) ++ ([32] : List UInt8)) ++ Go.Lib.itoa x.2.2.1).length + ([32] : List UInt8).length <= 9223372036854775807 := by simp; omega
     simp only [qT g4]
     rw [qD8 b1 (by omega)]
     have g5 : ((((([40] : List UInt8) ++ zT x.1) ++ ([32] : List UInt8)) ++ Go.Lib.itoa x.2.2.1) ++ ([32] : List UInt8)).length + (Go.Lib.itoa x.2.2.2.1).length <= 9223372036854775807 := by simp; omega
     simp only [qT g5]
     exact fin _ (by rw [en]; simp [Go.Lib.joinTail])
    ·have e : nbI x.1 = 1 := by rw [nbI, if_neg c3, if_neg c4]
     have en : vX x = [Go.Lib.itoa x.2.2.1] := by rw [vX, if_neg c3, if_neg c4]
     rw [e, if_pos (by decide)]
     simp only [qT g2]
     rw [qD8 a1 (by omega)]
     simp only [qT g3]
     rw [wJ h1, e]
     simp only [Ev.iteI, decide_eq_true_eq]
     rw [if_neg (by decide)]
     exact fin _ (by rw [en]; simp [Go.Lib.joinTail])
theorem qFt : ∀ {ks : List Int} {u : List Bool} {i : Nat}, rd (yA u ks) i = true -> rd u i = true \/ ∃ k ∈ ks, k.toNat = i
 | [], u, i, h => .inl h
 | k :: ks, u, i, h => by
  rw [yA] at h
  rcases qFt h with h | ⟨k', h1, h2⟩
  ·by_cases e : k.toNat = i
   ·exact .inr ⟨k, List.mem_cons_self, e⟩
   ·left
    rw [rd, List.getD_eq_getElem?_getD, List.getElem?_set, if_neg e, <- List.getD_eq_getElem?_getD] at h
    exact h
  ·exact .inr ⟨k', List.mem_cons_of_mem _ h1, h2⟩
theorem qJd {d : List qB} : ∀ {ys : List qA} {wide : List Int} {used : List Bool} {r : List Int × List Bool} {i : Nat}, jH d ys wide used = some r -> rd r.2 i = true -> rd used i = true \/ ∃ j, j < ys.length /\ ∃ k ∈ (rd ys j).2.2.2.2.2.2, k.toNat = i
 | [], wide, used, r, i, h, hu => by rw [jH] at h; cases h; exact .inl hu
 | x :: ys, wide, used, r, i, h, hu => by
  rw [jH] at h
  cases hs : yH d x wide with
  | none => rw [hs] at h; cases h
  | some w =>
   rw [hs] at h
   rcases qJd h hu with h1 | ⟨j, h1, h2⟩
   ·rcases qFt h1 with h1 | h1
    ·exact .inl h1
    ·exact .inr ⟨0, by simp, h1⟩
   ·exact .inr ⟨j + 1, by simpa using h1, h2⟩
theorem qHB {d : List qB} : ∀ {ys : List qA} {acc : List (List UInt8)}, (∀ j, acc.length <= j -> j < acc.length + ys.length -> (rd (wP d ys acc) j).length <= 20000) -> xL d ys acc = true
 | [], acc, h => rfl
 | x :: ys, acc, h => by
  have e1 : rd (acc ++ [qCr d x (jP acc x.2.2.2.2.2.2)]) acc.length = qCr d x (jP acc x.2.2.2.2.2.2) := by
   rw [rd, List.getD_eq_getElem?_getD, List.getElem?_append_right (Nat.le_refl _), Nat.sub_self]; rfl
  have h0 := h acc.length (Nat.le_refl _) (by simp)
  rw [wP, xI (by simp), e1] at h0
  rw [xL, decide_eq_true h0, Bool.true_and]
  refine qHB fun j h1 h2 => ?_
  rw [List.length_append, List.length_singleton] at h1 h2
  exact h j (by omega) (by rw [List.length_cons]; omega)
theorem qFr {d : List qB} : ∀ {ys : List qA} {acc : List (List UInt8)}, xL d ys acc = true -> ∀ j, acc.length <= j -> j < acc.length + ys.length -> (rd (wP d ys acc) j).length <= 20000
 | [], acc, h, j, h1, h2 => by rw [List.length_nil] at h2; omega
 | x :: ys, acc, h, j, h1, h2 => by
  have e1 : rd (acc ++ [qCr d x (jP acc x.2.2.2.2.2.2)]) acc.length = qCr d x (jP acc x.2.2.2.2.2.2) := by
   rw [rd, List.getD_eq_getElem?_getD, List.getElem?_append_right (Nat.le_refl _), Nat.sub_self]; rfl
  rw [xL, Bool.and_eq_true, decide_eq_true_eq] at h
  by_cases e : j = acc.length
  ·subst e
   rw [wP, xI (by simp), e1]; exact h.1
  ·rw [List.length_cons] at h2
   exact qFr h.2 j (by rw [List.length_append, List.length_singleton]; omega) (by rw [List.length_append, List.length_singleton]; omega)
theorem qJV {d : List qB} {t : List qA} {r : List Int × List Bool} (hn : qDl d t 0) (h1 : 1 <= t.length) (hg : jH d t [] (List.replicate t.length false) = some r) (hu : (r.2.take (t.length - 1)).all id = true) :
  ∀ (m i : Nat), i + m = t.length - 1 -> (rd (wP d t []) i).length <= (rd (wP d t []) (t.length - 1)).length := by
 have hrl : r.2.length = t.length := by
  have := (kL (fun w hw => by cases hw) hg).2.2
  simpa using this
 intro m
 induction m using Nat.strongRecOn with
 | _ m ih =>
  intro i hi
  match m with
  | 0 => rw [show i = t.length - 1 from by omega]; exact Nat.le_refl _
  | m + 1 =>
   have hui : rd r.2 i = true := by
    rw [List.all_eq_true] at hu
    have hlt : i < (r.2.take (t.length - 1)).length := by rw [List.length_take]; omega
    have := hu _ (List.getElem_mem hlt)
    rw [List.getElem_take] at this
    rw [rd, List.getD_eq_getElem?_getD, List.getElem?_eq_getElem (show i < r.2.length by omega)]
    simpa using this
   rcases qJd hg hui with h | ⟨j, hj, k, hk, hki⟩
   ·exfalso
    rw [rd, List.getD_eq_getElem?_getD, List.getElem?_replicate] at h
    rw [if_pos (by omega)] at h
    cases h
   ·obtain ⟨n1, e1⟩ := qEk (d := d) (ys := t) (acc := []) hn j hj
    simp only [List.length_nil, Nat.zero_add] at n1 e1
    have hk2 := n1.1.1
    rw [zQ, List.all_eq_true] at hk2
    have := hk2 k hk
    rw [decide_eq_true_eq] at this
    have hle := qMh (T := wP d t []) n1 hk
    rw [<- e1, hki] at hle
    exact Nat.le_trans hle (ih (t.length - 1 - j) (by omega) j (by omega))
theorem qG1 {l : List qB} (h : jL l = true) : ∀ y ∈ l, y.1.length <= 100 := by
 have go : ∀ {ys pre : List qB} {t : Int}, jW pre ys t = true -> ∀ y ∈ ys, y.1.length <= 100 := by
  intro ys
  induction ys with
  | nil => intro pre t _ y hy; cases hy
  | cons z ys ih =>
   intro pre t h y hy
   rw [jW, Bool.and_eq_true, Bool.and_eq_true, Bool.and_eq_true] at h
   rcases List.mem_cons.1 hy with rfl | hy
   ·have := h.1.1.1
    rw [kR, Bool.and_eq_true, decide_eq_true_eq] at this
    omega
   ·exact ih h.2 y hy
 rw [jL, Bool.and_eq_true] at h
 exact go h.2
theorem qDA {d : List qB} {t : List qA} (hd : d.length <= 1099511627776) (hg : ∀ x : qA, x ∈ t -> Wd x.2.2.2.2.2.1 /\ x.2.2.2.2.2.2.length <= 1099511627776) (R : Nat -> List UInt8 -> Prop) :
  Ev (fun n => Z49.c n d t (R n)) ↔ Ev (fun n => R n (qI3 d t)) := by
 have hy : ∀ x ∈ t, Wd x.2.2.2.2.2.1 := fun x hx => (hg x hx).1
 refine Ev.suc.trans ?_
 simp only [Z49.c, Z49.w, vP hd hg, Ev.iteI, decide_eq_true_eq, decide_eq_false_iff_not, and_self, qI3]
 by_cases h : xH d t < 0
 ·rw [if_neg (by simpa using h), if_pos h, Ev.s1 R]
 ·rw [if_pos (by simpa using h), if_neg h]
  obtain ⟨h1, h2, h3, h4, r, h5, h6⟩ := qJb h
  have hl : (wP d t []).length = t.length := by rw [qFd]; simp
  have lp := qHz (d := d) h4 (qG1 h1) t [] rfl (by simp) hy h2
  refine Ev.suc.trans ?_
  simp only [Z89.c, Z89.w]
  refine (lp _).trans ?_
  rw [qC (x := (t.length : Int) - 1) (by omega) (by omega), show ((t.length : Int) - 1).toNat = t.length - 1 from by omega, qMb (by omega)]
  have g : (0 : Int) <= (t.length : Int) - 1 /\ (t.length : Int) - 1 < (((wP d t []).map szI).length : Int) := ⟨by omega, by rw [List.length_map]; omega⟩
  simp only [qD g, Ev.iteI, decide_eq_true_eq]
  have hlast := qJV h2 h3 h5 h6
  by_cases hs : (rd (wP d t []) (t.length - 1)).length <= 20000
  ·have hsh : xL d t [] = true := qHB fun j _ hj => by
    have := hlast (t.length - 1 - j) j (by simp at hj; omega)
    omega
   rw [if_neg (by unfold szI sz1; omega), if_pos hsh]
   refine (Ev.suc (P := fun n => Z91.c n d t ((t.length : Int) - 1) (R (n + 1)))).symm.trans ?_
   have lt := qFV h4 hy h2 t.length (t.length - 1) (by omega) (by omega) hs (fun n => R (n + 1))
   rw [show ((t.length - 1 : Nat) : Int) = (t.length : Int) - 1 from by omega] at lt
   exact lt.trans (Ev.s1 R _)
  ·have hsh : ¬ xL d t [] = true := fun hh => hs (qFr hh (t.length - 1) (by simp) (by simp; omega))
   rw [if_pos (by unfold szI sz1; omega), if_neg hsh]
   exact (Ev.suc (P := fun n => R (n + 1) [])).symm.trans (Ev.s1 R _)
def kU (d : List qB) : List qE -> Int -> Bool
 | [], _ => true
 | l :: r, b => decide (b + 1 <= l.1 /\ l.1 <= 1000000) && !(decide (zE d l.2.2.1 < 0)) && decide (zE d l.2.2.1 = zE d l.2.2.2) && kU d r l.1
def qCa (d : List qB) (l : List qE) : Bool := decide (l.length <= 60) && kU d l 0
def qHU (d : List qB) (l : List qE) : Bool := jL d && qCa d l
theorem qJR {d : List qB} {l : List qE} (hd : d.length <= 1099511627776) (hl : l.length <= 60) : ∀ (ys : List qE) (x b : Int), l.drop x.toNat = ys -> 0 <= x -> 0 <= b -> b <= 1000000 -> ∀ (R : Nat -> Bool -> Prop),
  (Ev (fun n => Z16.l5 n d l l.length b x (R n true) (R n)) ↔ Ev (fun n => R n (kU d ys b)))
 | [], x, b, h, h0, hb, hb', R => by
  have := qY h h0
  refine Ev.suc.trans ?_
  simp (disch := omega) only [Z16.l5, Z16.l5.b, if_neg, decide_eq_true_eq, Ev.s1 R, kU]
 | y :: ys, x, b, h, h0, hb, hb', R => by
  obtain ⟨e1, e2, e3⟩ := qQ h h0
  refine Ev.suc.trans ?_
  simp (disch := omega) only [Z16.l5, Z16.l5.b, if_pos, decide_eq_true_eq, decide_eq_false_iff_not, qD, e2, qC, qJc hd, vF, Ev.iteI, Bool.not_eq_false', Bool.not_eq_true', Ev.s1 R, kU]
  by_cases h1 : b + 1 <= y.1 /\ y.1 <= 1000000
  ·rw [if_pos h1]
   by_cases h2 : zE d y.2.2.1 < 0
   ·rw [if_neg (fun h => h h2)]; simp [h2]
   ·rw [if_pos h2]
    by_cases h3 : zE d y.2.2.1 = zE d y.2.2.2
    ·rw [if_neg (fun h => h h3), qJR hd hl ys (x + 1) y.1 e3 (by omega) (by omega) (by omega) (fun n => R (n + 1)), Ev.s1 R]
     simp only [h1, h2, h3, and_self, decide_true, decide_false, Bool.not_false, Bool.true_and]
     rw [<- h3]; simp [h2]
    ·rw [if_pos h3]; simp [h3]
  ·rw [if_neg h1]; simp [h1]
theorem qLz {d : List qB} {l : List qE} (hd : d.length <= 1099511627776) (R : Nat -> Bool -> Prop) :
  Ev (fun n => Z16.c n d l (R n)) ↔ Ev (fun n => R n (qCa d l)) := by
 refine Ev.suc.trans ?_
 simp only [Z16.c, Z16.w, Ev.iteI, decide_eq_true_eq, Ev.s1 R, qCa]
 by_cases h : l.length <= 60
 ·rw [if_neg (by omega), qJR hd h l 0 0 rfl (by omega) (by omega) (by omega) (fun n => R (n + 1)), Ev.s1 R]
  simp [h]
 ·rw [if_pos (by omega)]; simp [h]
def qI2 (l : List qE) : Prop := ∀ y : qE, y ∈ l -> (∀ x : qA, x ∈ y.2.2.1 -> Wd x.2.2.2.2.2.1 /\ x.2.2.2.2.2.2.length <= 1099511627776) /\ (∀ x : qA, x ∈ y.2.2.2 -> Wd x.2.2.2.2.2.1 /\ x.2.2.2.2.2.2.length <= 1099511627776)
theorem qE8 {d : List qB} {t : List qA} (h : jL d = true) : xH d t = zE d t := by rw [xH, if_pos h]
theorem qHT {d : List qB} {l : List qE} (hd : d.length <= 1099511627776) (hok : jL d = true) (hl : l.length <= 60) : ∀ (ys : List qE) (x b : Int), l.drop x.toNat = ys -> 0 <= x -> qI2 ys -> 0 <= b -> (x = 0 -> b = 0) -> (0 < x -> (rd l (x - 1).toNat).1 = b) -> ∀ (R : Nat -> Bool -> Prop),
  (Ev (fun n => Z40.l4 n d l x (R n true) (R n)) ↔ Ev (fun n => R n (kU d ys b)))
 | [], x, b, h, h0, hg, hb, hb0, hb1, R => by
  have := qY h h0
  refine Ev.suc.trans ?_
  simp (disch := omega) only [Z40.l4, Z40.l4.b, if_neg, decide_eq_true_eq, Ev.s1 R, kU]
 | y :: ys, x, b, h, h0, hg, hb, hb0, hb1, R => by
  obtain ⟨e1, e2, e3⟩ := qQ h h0
  have hgy := hg y List.mem_cons_self
  have s1 := fun (R : Nat -> Int -> Prop) => vP (t := y.2.2.1) hd hgy.1 R
  have s2 := fun (R : Nat -> Int -> Prop) => vP (t := y.2.2.2) hd hgy.2 R
  have tail : 1 <= y.1 /\ y.1 <= 1000000 -> ((if zE d y.2.2.1 < 0 then Ev (fun n => R n false) else if ¬ zE d y.2.2.2 = zE d y.2.2.1 then Ev (fun n => R n false) else Ev fun n => Z40.l4 n d l (x + 1) (R (n + 1) true) (R (n + 1))) ↔
    Ev fun n => R n (!(decide (zE d y.2.2.1 < 0)) && decide (zE d y.2.2.1 = zE d y.2.2.2) && kU d ys y.1)) := fun hr => by
   by_cases h2 : zE d y.2.2.1 < 0
   ·rw [if_pos h2]; simp [h2]
   ·rw [if_neg h2]
    by_cases h3 : zE d y.2.2.2 = zE d y.2.2.1
    ·rw [if_neg (fun h => h h3), qHT hd hok hl ys (x + 1) y.1 e3 (by omega) (fun z hz => hg z (List.mem_cons_of_mem _ hz)) (by omega) (by omega) (fun _ => by rw [show x + 1 - 1 = x from by omega, e2]) (fun n => R (n + 1)), Ev.s1 R, h3]
     simp [h2]
    ·rw [if_pos h3, show decide (zE d y.2.2.1 = zE d y.2.2.2) = false from by rw [decide_eq_false_iff_not]; exact fun h => h3 h.symm]
     simp
  refine Ev.suc.trans ?_
  rw [kU]
  by_cases hr : 1 <= y.1 /\ y.1 <= 1000000
  ·by_cases hx : 0 < x
   ·have hp := hb1 hx
    simp (disch := omega) only [Z40.l4, Z40.l4.b, if_pos, decide_eq_true_eq, decide_eq_false_iff_not, qD, e2, qC, s1, s2, vK, Ev.iteI, Bool.not_eq_false', Bool.not_eq_true', Ev.s1 R, qE8 hok, hp, gt_iff_lt, ite_not]
    by_cases h4 : y.1 <= b
    ·rw [if_pos h4, show decide (b + 1 <= y.1 /\ y.1 <= 1000000) = false from by rw [decide_eq_false_iff_not]; omega]; simp
    ·rw [if_neg h4, show decide (b + 1 <= y.1 /\ y.1 <= 1000000) = true from by rw [decide_eq_true_eq]; omega, Bool.true_and]
     have t := tail hr
     simp only [ite_not] at t
     exact t
   ·have hx0 : x = 0 := by omega
    have hbz := hb0 hx0
    subst hbz
    simp (disch := omega) only [Z40.l4, Z40.l4.b, if_pos, if_neg, decide_eq_true_eq, decide_eq_false_iff_not, qD, e2, qC, s1, s2, vK, Ev.iteI, Bool.not_eq_false', Bool.not_eq_true', Ev.s1 R, qE8 hok, gt_iff_lt, ite_not]
    rw [show decide ((0 : Int) + 1 <= y.1 /\ y.1 <= 1000000) = true from by rw [decide_eq_true_eq]; omega, Bool.true_and]
    have t := tail hr
    simp only [ite_not] at t
    exact t
  ·simp (disch := omega) only [Z40.l4, Z40.l4.b, if_pos, decide_eq_true_eq, qD, e2, s1, vK, Ev.iteI, Bool.not_eq_false', hr, if_false, Ev.s1 R]
   rw [show decide (b + 1 <= y.1 /\ y.1 <= 1000000) = false from by rw [decide_eq_false_iff_not]; omega]; simp
theorem qLy {d : List qB} {l : List qE} (hd : d.length <= 1099511627776) (hg : qI2 l) (R : Nat -> Bool -> Prop) :
  Ev (fun n => Z40.c n d l (R n)) ↔ Ev (fun n => R n (qHU d l)) := by
 refine Ev.suc.trans ?_
 simp only [Z40.c, Z40.w, kW, Ev.iteI, decide_eq_true_eq, Bool.not_eq_false', Ev.s1 R, qHU, qCa]
 by_cases h : jL d = true
 ·rw [if_pos h, h, Bool.true_and]
  by_cases hl : l.length <= 60
  ·rw [if_neg (by omega), qHT hd h hl l 0 0 rfl (by omega) hg (by omega) (fun _ => rfl) (fun h => absurd h (by omega)) (fun n => R (n + 1)), Ev.s1 R]
   simp [hl]
  ·rw [if_pos (by omega)]; simp [hl]
 ·rw [if_neg h, show jL d = false from by simpa using h, Bool.false_and]
def jI (n : Int) : List qF -> Int -> Bool
 | [], _ => true
 | x :: r, b => decide (b <= x.1 /\ x.1 <= n) && jI n r x.1
def qAk (d : List qB) : List qF -> Int
 | [] => d.length
 | y :: _ => y.1
def jY (d : List qB) : List qF -> Bool
 | [] => true
 | x :: r => qCa (d.take (qAk d r).toNat) x.2 && jY d r
def qBm : List qE -> Int -> Bool
 | [], _ => true
 | l :: r, b => decide (b < l.1) && qBm r l.1
def vJ : List qE -> Int -> Int
 | [], b => b
 | l :: r, _ => vJ r l.1
theorem qHE : ∀ {a b : List qE} {c : Int}, qBm (a ++ b) c = (qBm a c && qBm b (vJ a c))
 | [], b, c => by rw [List.nil_append, qBm, vJ, Bool.true_and]
 | l :: a, b, c => by rw [List.cons_append, qBm, qBm, qHE, vJ, Bool.and_assoc]
theorem qDU : ∀ {a b : List qE} {c : Int}, vJ (a ++ b) c = vJ b (vJ a c)
 | [], b, c => rfl
 | l :: a, b, c => by rw [List.cons_append, vJ, vJ, qDU]
def qW : List qF -> List qE
 | [] => []
 | x :: r => x.2 ++ qW r
def jQ (d : List qB) (s : List qF) (next : Int) : Bool :=
 jL d && decide (1 <= s.length /\ s.length <= 20) && decide (1 <= next /\ next <= 1000000) && decide ((rd s 0).1 = 0) && jI d.length s 0 && jY d s && decide ((qW s).length <= 60) && qBm (qW s) 0 && decide (vJ (qW s) 0 < next)
theorem qD6 : ∀ {b pre : List qB} {t : Int}, jW pre b t = true -> t <= 20000
 | [], pre, t, h => by rw [jW, decide_eq_true_eq] at h; exact h
 | y :: b, pre, t, h => by
  rw [jW, Bool.and_eq_true, Bool.and_eq_true, Bool.and_eq_true, decide_eq_true_eq] at h
  have := qD6 h.2
  have := h.1.1.2
  omega
theorem qC3 : ∀ {a b pre : List qB} {t : Int}, jW pre (a ++ b) t = true -> jW pre a t = true
 | [], b, pre, t, h => by rw [jW, decide_eq_true_eq]; exact qD6 h
 | y :: a, b, pre, t, h => by
  rw [List.cons_append, jW, Bool.and_eq_true] at h
  rw [jW, Bool.and_eq_true]
  exact ⟨h.1, qC3 h.2⟩
theorem qGa {d : List qB} {k : Nat} (h : jL d = true) : jL (d.take k) = true := by
 rw [jL, Bool.and_eq_true, decide_eq_true_eq] at h ⊢
 refine ⟨by rw [List.length_take]; omega, ?_⟩
 have : jW [] (d.take k ++ d.drop k) 0 = true := by rw [List.take_append_drop]; exact h.2
 exact qC3 this
theorem qFS {d : List qB} : ∀ {l : List qE} {b : Int}, 0 <= b -> kU d l b = true -> ∀ y ∈ l, 1 <= y.1
 | [], b, h0, h, y, hy => by cases hy
 | z :: l, b, h0, h, y, hy => by
  rw [kU, Bool.and_eq_true, Bool.and_eq_true, Bool.and_eq_true, decide_eq_true_eq] at h
  rcases List.mem_cons.1 hy with rfl | hy
  ·omega
  ·exact qFS (by omega) h.2 y hy
theorem qBM {d : List qB} : ∀ {s : List qF}, jY d s = true -> ∀ y ∈ qW s, 1 <= y.1
 | [], h, y, hy => by cases hy
 | x :: r, h, y, hy => by
  rw [jY, Bool.and_eq_true, qCa, Bool.and_eq_true] at h
  rcases List.mem_append.1 hy with hy | hy
  ·exact qFS (by omega) h.1.2 y hy
  ·exact qBM h.2 y hy
theorem qMH {d : List qB} {s : List qF} {next k : Int} (hs : s.length <= 1048576) (hk0 : 0 <= k) (hk : k < (s.length : Int)) (R : Nat -> Int -> Prop) :
  Ev (fun n => Z5.c n (d, s, next) k (R n)) ↔ Ev (fun n => R n (qAk d (s.drop (k + 1).toNat))) := by
 refine Ev.suc.trans ?_
 simp (disch := omega) only [Z5.c, Z5.w, qC, Ev.iteI, decide_eq_true_eq, qD, Ev.s1 R]
 by_cases h : k + 1 < (s.length : Int)
 ·rw [if_pos h]
  have e : s.drop (k + 1).toNat = rd s (k + 1).toNat :: s.drop ((k + 1).toNat + 1) := by
   rw [List.drop_eq_getElem_cons (by omega)]
   congr 1
   rw [rd, List.getD_eq_getElem?_getD, List.getElem?_eq_getElem (by omega)]; rfl
  rw [e]; rfl
 ·rw [if_neg h, List.drop_eq_nil_of_le (by omega)]; rfl
theorem qFv {d : List qB} {s s' : List qF} {next : Int} (hs : s.length <= 1048576) : ∀ (ys : List qF) (k b : Int), s.drop k.toNat = ys -> 0 <= k -> (k = 0 -> b = 0) -> ∀ (Kx : Nat -> List qB -> List qF -> Int -> Prop) (Kr : Nat -> Bool -> Prop),
  (Ev (fun n => Z3.l5 n s s.length d s' next b k (Kx n) (Kr n)) ↔ if jI d.length ys b = true /\ (k = 0 -> ys ≠ [] -> (rd ys 0).1 = 0) then Ev (fun n => Kx n d s' next) else Ev (fun n => Kr n false))
 | [], k, b, h, h0, hb, Kx, Kr => by
  have := qY h h0
  refine Ev.suc.trans ?_
  simp (disch := omega) only [Z3.l5, Z3.l5.b, if_neg, decide_eq_true_eq, Ev.s3 Kx]
  rw [if_pos ⟨rfl, fun _ h => absurd rfl h⟩]
 | y :: ys, k, b, h, h0, hb, Kx, Kr => by
  obtain ⟨e1, e2, e3⟩ := qQ h h0
  have er : rd (y :: ys) 0 = y := rfl
  refine Ev.suc.trans ?_
  simp (disch := omega) only [Z3.l5, Z3.l5.b, if_pos, decide_eq_true_eq, decide_eq_false_iff_not, Bool.not_eq_true', Bool.not_eq_false', qD, e2, qC, vF, Ev.iteI, Ev.s1 Kr, qFv hs ys (k + 1) y.1 e3 (by omega) (fun h => absurd h (by omega)), Ev.s3 Kx, er]
  simp only [jI, Bool.and_eq_true, decide_eq_true_eq]
  have hk1 : ¬ k + 1 = 0 := by omega
  simp only [hk1, false_imp_iff, and_true]
  by_cases hk : k = 0
  ·simp only [hk, if_true, true_imp_iff, ne_eq, List.cons_ne_nil, not_false_eq_true]
   by_cases h1 : y.1 = 0
   ·rw [if_pos h1]
    by_cases h2 : b <= y.1 /\ y.1 <= (d.length : Int)
    ·rw [if_neg (fun h => h h2)]; rw [h1] at h2; simp only [h1, h2, and_self, true_and, and_true]
    ·rw [if_pos h2, if_neg (fun h => h2 h.1.1)]
   ·rw [if_neg h1, if_neg (fun h => h1 h.2)]
  ·simp only [hk, if_false, false_imp_iff, and_true]
   by_cases h2 : b <= y.1 /\ y.1 <= (d.length : Int)
   ·rw [if_neg (fun h => h h2)]; simp only [h2, and_self, true_and]
   ·rw [if_pos h2, if_neg (fun h => h2 h.1)]
theorem qH6 {d : List qB} : ∀ {r : List qF} {b : Int}, 0 <= b -> jI d.length r b = true -> 0 <= qAk d r /\ qAk d r <= (d.length : Int)
 | [], b, h0, h => by simp only [qAk]; omega
 | y :: r, b, h0, h => by
  rw [jI, Bool.and_eq_true, decide_eq_true_eq] at h
  simp only [qAk]; omega
theorem qBL {d : List qB} {s : List qF} {next : Int} (hd : d.length <= 1099511627776) (hs : s.length <= 1048576) : ∀ (ys : List qF) (k b : Int), s.drop k.toNat = ys -> 0 <= k -> 0 <= b -> jI d.length ys b = true -> ∀ (Kx : Nat -> List qB -> List qF -> Int -> Prop) (Kr : Nat -> Bool -> Prop),
  (Ev (fun n => Z3.l12 n s s.length d s next k (Kx n) (Kr n)) ↔ if jY d ys = true then Ev (fun n => Kx n d s next) else Ev (fun n => Kr n false))
 | [], k, b, h, h0, hb, hg, Kx, Kr => by
  have := qY h h0
  refine Ev.suc.trans ?_
  simp (disch := omega) only [Z3.l12, Z3.l12.b, if_neg, decide_eq_true_eq, Ev.s3 Kx, jY, if_true]
 | y :: ys, k, b, h, h0, hb, hg, Kx, Kr => by
  obtain ⟨e1, e2, e3⟩ := qQ h h0
  rw [jI, Bool.and_eq_true, decide_eq_true_eq] at hg
  have he := qH6 (d := d) (r := ys) (b := y.1) (by omega) hg.2
  refine Ev.suc.trans ?_
  simp (disch := omega) only [Z3.l12, Z3.l12.b, if_pos, decide_eq_true_eq, qD, e2, qMH hs h0 e1, e3, qA4, and_self, List.drop_zero]
  rw [qLz (by rw [List.length_take]; omega)]
  simp (disch := omega) only [Ev.iteI, Bool.not_eq_true', Ev.s1 Kr, qC, qBL hd hs ys (k + 1) y.1 e3 (by omega) (by omega) hg.2, Ev.s3 Kx, jY, Bool.and_eq_true]
  cases qCa (d.take (qAk d ys).toNat) y.2 <;> simp
theorem qMs {s : List qF} (hs : s.length <= 1048576) : ∀ (ys : List qF) (k : Int) (acc : List qE), s.drop k.toNat = ys -> 0 <= k -> acc.length + (qW ys).length <= 1048576 -> ∀ (Kx : Nat -> List qE -> Prop),
  (Ev (fun n => Z4.l3 n s s.length k acc (Kx n)) ↔ Ev (fun n => Kx n (acc ++ qW ys)))
 | [], k, acc, h, h0, hb, Kx => by
  have := qY h h0
  refine Ev.suc.trans ?_
  simp (disch := omega) only [Z4.l3, Z4.l3.b, if_neg, decide_eq_true_eq, Ev.s1 Kx, qW, List.append_nil]
 | y :: ys, k, acc, h, h0, hb, Kx => by
  obtain ⟨e1, e2, e3⟩ := qQ h h0
  rw [qW, List.length_append] at hb
  refine Ev.suc.trans ?_
  simp (disch := omega) only [Z4.l3, Z4.l3.b, if_pos, decide_eq_true_eq, qD, qT, e2, qC]
  rw [qMs hs ys (k + 1) _ e3 (by omega) (by rw [List.length_append]; omega), Ev.s1 Kx, qW, List.append_assoc]
theorem qNT {d : List qB} {s : List qF} {next : Int} (hs : s.length <= 1048576) (hb : (qW s).length <= 1048576) (R : Nat -> List qE -> Prop) :
  Ev (fun n => Z4.c n (d, s, next) (R n)) ↔ Ev (fun n => R n (qW s)) := by
 refine Ev.suc.trans ?_
 simp only [Z4.c, Z4.w]
 rw [qMs hs s 0 [] rfl (by omega) (by simpa using hb), Ev.s1 R, List.nil_append]
theorem qMi {d : List qB} {s : List qF} {l : List qE} {next : Int} (hl : l.length <= 1048576) : ∀ (ys : List qE) (x b : Int), l.drop x.toNat = ys -> 0 <= x -> (x = 0 -> b = 0) -> (∀ y ∈ ys, 1 <= y.1) -> (0 < x -> (rd l (x - 1).toNat).1 = b) -> ∀ (Kx : Nat -> Prop) (Kr : Nat -> Bool -> Prop),
  (Ev (fun n => Z3.l21 n l.length l d s next x (Kx n) (Kr n)) ↔ if qBm ys b = true /\ (∀ y ∈ ys, y.1 < next) then Ev Kx else Ev (fun n => Kr n false))
 | [], x, b, h, h0, hb, hy, hp, Kx, Kr => by
  have := qY h h0
  refine Ev.suc.trans ?_
  simp (disch := omega) only [Z3.l21, Z3.l21.b, if_neg, decide_eq_true_eq, Ev.s0 Kx]
  rw [if_pos ⟨rfl, fun y hy => absurd hy List.not_mem_nil⟩]
 | y :: ys, x, b, h, h0, hb, hy, hp, Kx, Kr => by
  obtain ⟨e1, e2, e3⟩ := qQ h h0
  have hy0 := hy y List.mem_cons_self
  have ih := qMi (d := d) (s := s) (next := next) hl ys (x + 1) y.1 e3 (by omega) (fun h => absurd h (by omega)) (fun z hz => hy z (List.mem_cons_of_mem _ hz)) (fun _ => by rw [show x + 1 - 1 = x from by omega, e2]) (fun n => Kx (n + 1)) (fun n => Kr (n + 1))
  have ec : (qBm (y :: ys) b = true /\ ∀ z ∈ y :: ys, z.1 < next) ↔ b < y.1 /\ y.1 < next /\ qBm ys y.1 = true /\ ∀ z ∈ ys, z.1 < next := by
   rw [qBm, Bool.and_eq_true, decide_eq_true_eq, List.forall_mem_cons]
   constructor
   ·rintro ⟨⟨a, b⟩, c, d⟩; exact ⟨a, c, b, d⟩
   ·rintro ⟨a, c, b, d⟩; exact ⟨⟨a, b⟩, c, d⟩
  simp only [ec]
  refine Ev.suc.trans ?_
  by_cases h1 : y.1 < next
  ·by_cases hx : 0 < x
   ·have hp' := hp hx
    simp (disch := omega) only [Z3.l21, Z3.l21.b, if_pos, decide_eq_true_eq, decide_eq_false_iff_not, qD, e2, qC, Ev.iteI, ge_iff_le, hp', Ev.s1 Kr, ih, Ev.s0 Kx]
    by_cases h2 : b < y.1
    ·rw [if_neg (by omega)]; simp only [h1, h2, true_and]
    ·rw [if_pos (by omega), if_neg (fun h => h2 h.1)]
   ·have hb0 := hb (by omega)
    simp (disch := omega) only [Z3.l21, Z3.l21.b, if_pos, if_neg, decide_eq_true_eq, decide_eq_false_iff_not, qD, e2, qC, Ev.iteI, ge_iff_le, Ev.s1 Kr, ih, Ev.s0 Kx]
    simp only [h1, show b < y.1 by omega, true_and]
  ·simp (disch := omega) only [Z3.l21, Z3.l21.b, if_pos, if_neg, decide_eq_true_eq, decide_eq_false_iff_not, qD, e2, Ev.iteI, ge_iff_le, Ev.s1 Kr]
theorem qFy : ∀ {l : List qE} {b next : Int}, qBm l b = true -> b < next -> ((∀ y ∈ l, y.1 < next) ↔ vJ l b < next)
 | [], b, next, h, hb => by
  simp only [vJ]
  exact ⟨fun _ => hb, fun _ y hy => absurd hy List.not_mem_nil⟩
 | z :: l, b, next, h, hb => by
  rw [qBm, Bool.and_eq_true, decide_eq_true_eq] at h
  rw [List.forall_mem_cons, vJ]
  by_cases hz : z.1 < next
  ·rw [qFy h.2 hz]; exact ⟨fun h => h.2, fun h => ⟨hz, h⟩⟩
  ·have mono : ∀ (l : List qE) (b : Int), qBm l b = true -> b <= vJ l b := by
    intro l
    induction l with
    | nil => intro b _; exact Int.le_refl _
    | cons y l ih =>
     intro b h
     rw [qBm, Bool.and_eq_true, decide_eq_true_eq] at h
     have := ih _ h.2
     rw [vJ]; omega
   have := mono _ _ h.2
   exact ⟨fun h => absurd h.1 hz, fun h => absurd h (by omega)⟩
theorem qBK {d : List qB} {s : List qF} {next : Int} (hd : d.length <= 1099511627776) (hs : s.length <= 1048576) (hb : (qW s).length <= 1048576) (R : Nat -> Bool -> Prop) :
  Ev (fun n => Z3.c n d s next (R n)) ↔ Ev (fun n => R n (jQ d s next)) := by
 refine Ev.suc.trans ?_
 simp only [Z3.c, Z3.w, qIT, vF, Ev.iteI, decide_eq_true_eq, decide_eq_false_iff_not, Bool.not_eq_false', Bool.not_eq_true', Ev.s1 R, jQ]
 by_cases h1 : jL d = true
 rotate_left
 ·rw [if_neg h1, show jL d = false from by simpa using h1]; simp
 rw [if_pos h1]
 by_cases h2 : 1 <= s.length /\ s.length <= 20
 rotate_left
 ·rw [show decide (1 <= s.length /\ s.length <= 20) = false from by rw [decide_eq_false_iff_not]; exact h2]
  simp only [Bool.and_false, Bool.false_and]
  split
  ·rw [if_neg (by omega)]
  ·rfl
 rw [if_pos (by omega), if_pos (by omega)]
 by_cases h3 : 1 <= next /\ next <= 1000000
 rotate_left
 ·rw [if_pos h3, show decide (1 <= next /\ next <= 1000000) = false from by rw [decide_eq_false_iff_not]; exact h3]; simp
 rw [if_neg (fun h => h h3)]
 simp only [Z3.j0]
 rw [qFv hs s 0 0 rfl (by omega) (fun _ => rfl), Ev.s1 R]
 have hne : s ≠ [] := fun h => by rw [h] at h2; simp at h2
 have hgd : (rd s 0).1 = (rd s 0).1 := rfl
 simp only [h1, h2, h3, and_self, decide_true, Bool.true_and, hne, ne_eq, not_false_eq_true, true_imp_iff]
 by_cases h4 : jI d.length s 0 = true
 rotate_left
 ·rw [if_neg (fun h => h4 h.1), show jI (d.length : Int) s 0 = false from by simpa using h4]; simp
 by_cases h5 : (rd s 0).1 = 0
 rotate_left
 ·rw [if_neg (fun h => h5 h.2), show decide ((rd s 0).1 = 0) = false from by rw [decide_eq_false_iff_not]; exact h5]; simp
 rw [if_pos ⟨h4, h5⟩, qBL hd hs s 0 0 rfl (by omega) (by omega) h4, Ev.s1 R]
 simp only [h4, h5, decide_true, Bool.true_and]
 by_cases h6 : jY d s = true
 rotate_left
 ·rw [if_neg h6, show jY d s = false from by simpa using h6]; simp
 rw [if_pos h6, qNT hs hb]
 simp only [Ev.iteI, decide_eq_true_eq, Ev.s1 R, h6, Bool.true_and]
 by_cases h7 : (qW s).length <= 60
 rotate_left
 ·rw [if_pos (by omega), show decide ((qW s).length <= 60) = false from by rw [decide_eq_false_iff_not]; exact h7]; simp
 rw [if_neg (by omega), qMi (by omega) (qW s) 0 0 rfl (by omega) (fun _ => rfl) (qBM h6) (fun h => absurd h (by omega)), Ev.s1 R, Ev.s1 R]
 simp only [h7, decide_true, Bool.true_and]
 by_cases h8 : qBm (qW s) 0 = true
 rotate_left
 ·rw [if_neg (fun h => h8 h.1), show qBm (qW s) 0 = false from by simpa using h8]; simp
 have e := qFy h8 (show (0 : Int) < next by omega)
 by_cases h9 : vJ (qW s) 0 < next
 ·rw [if_pos ⟨h8, e.2 h9⟩, h8, decide_eq_true h9]; exact Iff.rfl
 ·rw [if_neg (fun h => h9 (e.1 h.2)), h8, decide_eq_false h9]; exact Iff.rfl
theorem qDK {d : List qB} {s : List qF} {next m : Int} (hs : s.length <= 1048576) : ∀ (ys : List qF) (k b : Int), s.drop k.toNat = ys -> 1 <= k -> (rd s (k - 1).toNat).1 = b -> ∀ (Kx : Nat -> Int -> List qB -> List qF -> Int -> Prop) (Kr : Nat -> Bool -> Prop),
  (Ev (fun n => Z46.l5 n m d s next k (Kx n) (Kr n)) ↔ if jI m ys b = true then Ev (fun n => Kx n m d s next) else Ev (fun n => Kr n false))
 | [], k, b, h, h0, hb, Kx, Kr => by
  have := qY h (by omega)
  refine Ev.suc.trans ?_
  simp (disch := omega) only [Z46.l5, Z46.l5.b, if_neg, decide_eq_true_eq, Ev.s4 Kx, jI, if_true]
 | y :: ys, k, b, h, h0, hb, Kx, Kr => by
  obtain ⟨e1, e2, e3⟩ := qQ h (by omega)
  have ih := qDK (d := d) (next := next) (m := m) hs ys (k + 1) y.1 e3 (by omega) (by rw [show k + 1 - 1 = k from by omega, e2]) (fun n => Kx (n + 1)) (fun n => Kr (n + 1))
  refine Ev.suc.trans ?_
  simp (disch := omega) only [Z46.l5, Z46.l5.b, if_pos, decide_eq_true_eq, qD, e2, hb, qC, vK, Ev.iteI, Bool.not_eq_true', decide_eq_false_iff_not, Ev.s1 Kr, ih, Ev.s4 Kx, jI, Bool.and_eq_true]
  by_cases h2 : b <= y.1 /\ y.1 <= m
  ·rw [if_neg (fun h => h h2)]; simp only [h2, and_self, true_and]
  ·rw [if_pos h2, if_neg (fun h => h2 h.1)]
theorem qJ5 {d : List qB} {s : List qF} {l : List qE} {next a1 a2 a3 : Int} : ∀ (ys : List qE) (x b : Int), l.drop x.toNat = ys -> 0 <= x -> l.length <= 1099511627776 -> ∀ (Kx : Nat -> Int -> Int -> Int -> Int -> List qE -> List qB -> List qF -> Int -> Prop) (Kr : Nat -> Bool -> Prop),
  (Ev (fun n => Z46.l21 n a1 a2 a3 l d s next b x (Kx n) (Kr n)) ↔ if qBm ys b = true then Ev (fun n => Kx n a1 a2 (vJ ys b) a3 l d s next) else Ev (fun n => Kr n false))
 | [], x, b, h, h0, hl, Kx, Kr => by
  have := qY h h0
  refine Ev.suc.trans ?_
  simp (disch := omega) only [Z46.l21, Z46.l21.b, if_neg, decide_eq_true_eq, Ev.s8 Kx, qBm, vJ, if_true]
 | y :: ys, x, b, h, h0, hl, Kx, Kr => by
  obtain ⟨e1, e2, e3⟩ := qQ h h0
  have ih := qJ5 (d := d) (s := s) (next := next) (a1 := a1) (a2 := a2) (a3 := a3) ys (x + 1) y.1 e3 (by omega) hl (fun n => Kx (n + 1)) (fun n => Kr (n + 1))
  refine Ev.suc.trans ?_
  simp (disch := omega) only [Z46.l21, Z46.l21.b, if_pos, decide_eq_true_eq, qD, e2, qC, Ev.iteI, Ev.s1 Kr, ih, Ev.s8 Kx, qBm, vJ, Bool.and_eq_true]
  by_cases h2 : b < y.1
  ·rw [if_neg (by omega)]; simp only [h2, true_and]
  ·rw [if_pos (by omega), if_neg (fun h => h2 h.1)]
theorem qFR {d : List qB} {s : List qF} {next : Int} (hd : d.length <= 1099511627776) (hs : s.length <= 1048576) (hok : jL d = true) : ∀ (ys : List qF) (k b tot last : Int), s.drop k.toNat = ys -> 0 <= k -> 0 <= b -> jI d.length ys b = true -> (∀ y ∈ ys, qI2 y.2) -> 0 <= tot -> tot + (qW ys).length <= 1099511627776 -> ∀ (Kx : Nat -> Int -> Int -> List qB -> List qF -> Int -> Prop) (Kr : Nat -> Bool -> Prop),
  (Ev (fun n => Z46.l12 n d.length tot last k d s next (Kx n) (Kr n)) ↔ if jY d ys = true /\ qBm (qW ys) last = true then Ev (fun n => Kx n (tot + (qW ys).length) (vJ (qW ys) last) d s next) else Ev (fun n => Kr n false))
 | [], k, b, tot, last, h, h0, hb, hg, hl, ht, ht', Kx, Kr => by
  have := qY h h0
  refine Ev.suc.trans ?_
  simp (disch := omega) only [Z46.l12, Z46.l12.b, if_neg, decide_eq_true_eq, Ev.s5 Kx, jY, qW, qBm, vJ, and_self, if_true, List.length_nil, Int.ofNat_zero, Int.natCast_zero, Int.add_zero]
 | y :: ys, k, b, tot, last, h, h0, hb, hg, hl, ht, ht', Kx, Kr => by
  obtain ⟨e1, e2, e3⟩ := qQ h h0
  rw [jI, Bool.and_eq_true, decide_eq_true_eq] at hg
  have he := qH6 (d := d) (r := ys) (b := y.1) (by omega) hg.2
  have el : (qW (y :: ys)).length = y.2.length + (qW ys).length := by rw [qW, List.length_append]
  have ih := fun last' => qFR (next := next) hd hs hok ys (k + 1) y.1 (tot + y.2.length) last' e3 (by omega) (by omega) hg.2 (fun z hz => hl z (List.mem_cons_of_mem _ hz)) (by omega) (by omega) (fun n => Kx (n + 1)) (fun n => Kr (n + 1))
  have eo : qHU (d.take (qAk d ys).toNat) y.2 = qCa (d.take (qAk d ys).toNat) y.2 := by rw [qHU, qGa hok, Bool.true_and]
  have s1 := fun (R : Nat -> Bool -> Prop) => qLy (d := d.take (qAk d ys).toNat) (l := y.2) (by rw [List.length_take]; omega) (hl y List.mem_cons_self) R
  have fin : Ev (fun n => Z46.j3 (Kr (n + 1)) (fun x120q x121q x122q x123q x124q x125q x126q => Z46.l12 n x120q x121q x122q x123q x124q x125q x126q (Kx (n + 1)) (Kr (n + 1))) (Z46.l21 n) n d.length tot last k d s next (qAk d ys)) ↔ if jY d (y :: ys) = true /\ qBm (qW (y :: ys)) last = true then Ev (fun n => Kx n (tot + (qW (y :: ys)).length) (vJ (qW (y :: ys)) last) d s next) else Ev (fun n => Kr n false) := by
   simp (disch := omega) only [Z46.j3, qD, qA4, e2, List.drop_zero, s1, eo, Ev.iteI, Bool.not_eq_true', Ev.s1 Kr]
   rw [qJ5 y.2 0 last rfl (by omega) (by omega)]
   simp (disch := omega) only [qC, ih, Ev.s1 Kr, Ev.s5 Kx, jY, qW, qHE, qDU, Bool.and_eq_true, el, Int.natCast_add]
   rw [show tot + ((y.2 ++ qW ys).length : Nat) = tot + y.2.length + (qW ys).length from by rw [List.length_append]; omega]
   cases qCa (d.take (qAk d ys).toNat) y.2
   ·simp
   ·cases qBm y.2 last <;> simp
  refine Ev.suc.trans (Iff.trans ?_ fin)
  simp (disch := omega) only [Z46.l12, Z46.l12.b, if_pos, decide_eq_true_eq, qC]
  by_cases h : k + 1 < (s.length : Int)
  ·have e : ys = rd s (k + 1).toNat :: s.drop ((k + 1).toNat + 1) := by
    rw [<- e3, List.drop_eq_getElem_cons (by omega)]
    congr 1
    rw [rd, List.getD_eq_getElem?_getD, List.getElem?_eq_getElem (by omega)]; rfl
   have e' : (rd s (k + 1).toNat).1 = qAk d ys := by rw [e]; rfl
   simp (disch := omega) only [if_pos, qD, e']
  ·have e' : (d.length : Int) = qAk d ys := by rw [<- e3, List.drop_eq_nil_of_le (by omega)]; rfl
   simp (disch := omega) only [if_neg]
   rw [<- e']
theorem kG {d : List qB} {s : List qF} {next : Int} (hd : d.length <= 1099511627776) (hs : s.length <= 1048576) (hb : (qW s).length <= 1048576) (hg : ∀ y ∈ s, qI2 y.2) (R : Nat -> Bool -> Prop) :
  Ev (fun n => Z46.c n d s next (R n)) ↔ Ev (fun n => R n (jQ d s next)) := by
 refine Ev.suc.trans ?_
 simp only [Z46.c, Z46.w, kW, Ev.iteI, decide_eq_true_eq, decide_eq_false_iff_not, Bool.not_eq_false', Bool.not_eq_true', Ev.s1 R, jQ]
 by_cases h1 : jL d = true
 rotate_left
 ·rw [if_neg h1, show jL d = false from by simpa using h1]; simp
 rw [if_pos h1]
 by_cases h2 : 1 <= s.length /\ s.length <= 20
 rotate_left
 ·rw [show decide (1 <= s.length /\ s.length <= 20) = false from by rw [decide_eq_false_iff_not]; exact h2]
  simp only [Bool.and_false, Bool.false_and]
  split
  ·rw [if_neg (by omega)]
  ·rfl
 rw [if_pos (by omega), if_pos (by omega)]
 simp (disch := omega) only [qT, vK, Ev.iteI, Bool.not_eq_false', Bool.not_eq_true', decide_eq_true_eq, decide_eq_false_iff_not, Ev.s1 R]
 by_cases h5 : (rd s 0).1 = 0
 rotate_left
 ·rw [if_neg h5, show decide ((rd s 0).1 = 0) = false from by rw [decide_eq_false_iff_not]; exact h5]; simp
 rw [if_pos h5]
 by_cases h3 : 1 <= next /\ next <= 1000000
 rotate_left
 ·rw [if_pos h3, show decide (1 <= next /\ next <= 1000000) = false from by rw [decide_eq_false_iff_not]; exact h3]; simp
 rw [if_neg (fun h => h h3)]
 simp only [Z46.j4]
 rw [qDK hs (s.drop 1) 1 0 rfl (by omega) h5]
 have hgo : jI d.length s 0 = jI d.length (s.drop 1) 0 := by
  cases s with
  | nil => simp at h2
  | cons y s =>
   have h5' : y.1 = 0 := h5
   rw [jI, h5']
   simp
 simp only [h1, h2, h3, h5, and_self, decide_true, Bool.true_and]
 by_cases h4 : jI d.length s 0 = true
 rotate_left
 ·rw [if_neg (by rw [<- hgo]; exact h4), show jI (d.length : Int) s 0 = false from by simpa using h4]; simp [Ev.s1 R]
 rw [if_pos (by rw [<- hgo]; exact h4), qFR hd hs h1 s 0 0 0 0 rfl (by omega) (by omega) h4 hg (by omega) (by omega)]
 simp only [h4, Bool.true_and, Int.zero_add, Ev.iteI, decide_eq_true_eq]
 by_cases h6 : jY d s = true
 rotate_left
 ·rw [if_neg (fun h => h6 h.1), show jY d s = false from by simpa using h6]; simp [Ev.s1 R]
 by_cases h8 : qBm (qW s) 0 = true
 rotate_left
 ·rw [if_neg (fun h => h8 h.2), show qBm (qW s) 0 = false from by simpa using h8]; simp [Ev.s1 R]
 rw [if_pos ⟨h6, h8⟩, h6, h8, Bool.true_and, Bool.and_true]
 by_cases h7 : (qW s).length <= 60
 ·rw [if_pos (by omega)]; simp [h7, Ev.s1 R]
 ·rw [if_neg (by omega)]; simp [h7, Ev.s1 R]
def vQ : List qA -> Nat
 | [] => 0
 | y :: r => (y.2.2.2.2.2.1.length + y.2.2.2.2.2.2.length) + vQ r
theorem qCy {y : qA} : ∀ {l : List qA}, y ∈ l -> y.2.2.2.2.2.1.length + y.2.2.2.2.2.2.length <= vQ l
 | [], h => absurd h List.not_mem_nil
 | a :: l, h => by
  rw [vQ]
  rcases List.mem_cons.1 h with rfl | h
  ·omega
  ·have := qCy h; omega
def qX : List qE -> Nat
 | [] => 0
 | y :: r => (((y.2.2.1.length + vQ y.2.2.1)) + ((y.2.2.2.length + vQ y.2.2.2))) + qX r
theorem qAV {y : qE} : ∀ {l : List qE}, y ∈ l -> ((y.2.2.1.length + vQ y.2.2.1)) + ((y.2.2.2.length + vQ y.2.2.2)) <= qX l
 | [], h => absurd h List.not_mem_nil
 | a :: l, h => by
  rw [qX]
  rcases List.mem_cons.1 h with rfl | h
  ·omega
  ·have := qAV h; omega
def qV : List qF -> Nat
 | [] => 0
 | y :: r => ((y.2.length + qX y.2)) + qV r
theorem wA {y : qF} : ∀ {l : List qF}, y ∈ l -> (y.2.length + qX y.2) <= qV l
 | [], h => absurd h List.not_mem_nil
 | a :: l, h => by
  rw [qV]
  rcases List.mem_cons.1 h with rfl | h
  ·omega
  ·have := wA h; omega
theorem qKt {l : List Int} (hl : l.length <= 1099511627776) (R : Nat -> List Int -> Prop) :
  Ev (fun n => Z29.c n l (R n)) ↔ Ev (fun n => R n l) := by
 refine Ev.suc.trans ?_
 simp (disch := (simp only [List.length_nil]; omega)) only [Z29.c, Z29.w, Ev.andI, Ev.impI, qT, List.nil_append, Ev.s1 R]
 constructor
 ·exact fun h => h.2
 ·refine fun h => ⟨fun e => ?_, h⟩
  rw [List.eq_nil_of_length_eq_zero e] at h; exact h
theorem qGh {x : qA} (h1 : x.2.2.2.2.2.1.length <= 1048576) (h2 : x.2.2.2.2.2.2.length <= 1048576) (R : Nat -> Int -> Int -> Int -> Int -> Int -> List Int -> List Int -> Prop) :
  Ev (fun n => Z10.c n x.1 x.2.1 x.2.2.1 x.2.2.2.1 x.2.2.2.2.1 x.2.2.2.2.2.1 x.2.2.2.2.2.2 (R n)) ↔ Ev (fun n => R n x.1 x.2.1 x.2.2.1 x.2.2.2.1 x.2.2.2.2.1 x.2.2.2.2.2.1 x.2.2.2.2.2.2) := by
 refine Ev.suc.trans ?_
 simp (disch := omega) only [Z10.c, Z10.w, qGk, qKt]
 exact Ev.s7 R _ _ _ _ _ _ _
theorem qG5 {x : qA} (h1 : x.2.2.2.2.2.1.length <= 1048576) (h2 : x.2.2.2.2.2.2.length <= 1048576) (R : Nat -> Int -> Int -> Int -> Int -> Int -> List Int -> List Int -> Prop) :
  Ev (fun n => Z78.c n x.1 x.2.1 x.2.2.1 x.2.2.2.1 x.2.2.2.2.1 x.2.2.2.2.2.1 x.2.2.2.2.2.2 (R n)) ↔ Ev (fun n => R n x.1 x.2.1 x.2.2.1 x.2.2.2.1 x.2.2.2.2.1 x.2.2.2.2.2.1 x.2.2.2.2.2.2) := by
 refine Ev.suc.trans ?_
 simp (disch := (simp only [List.length_nil]; omega)) only [Z78.c, Z78.w, qT, List.nil_append, and_self]
 exact Ev.s7 R _ _ _ _ _ _ _
def TmS (t : List qA) : Prop := t.length + vQ t <= 1048576
theorem TmS.mem {t : List qA} (h : TmS t) : ∀ x ∈ t, x.2.2.2.2.2.1.length <= 1048576 /\ x.2.2.2.2.2.2.length <= 1048576 := fun x hx => by
 have := qCy hx; have h : t.length + vQ t <= 1048576 := h; omega
theorem qGg {t z : List qA} (hl : t.length <= 1048576) : ∀ (ys : List qA) (x : Int) (o : List qA), t.drop x.toNat = ys -> 0 <= x -> o.length = t.length -> (∀ y ∈ ys, y.2.2.2.2.2.1.length <= 1048576 /\ y.2.2.2.2.2.2.length <= 1048576) ->
  ∀ Kx : Nat -> List qA -> List qA -> Prop, (Ev (fun n => Z12.l3 n t t.length z x o (Kx n)) ↔ Ev (fun n => Kx n (o.take x.toNat ++ ys) z))
 | [], x, o, h, h0, ho, hy, Kx => by
  have := qY h h0
  refine Ev.suc.trans ?_
  simp (disch := omega) only [Z12.l3, Z12.l3.b, if_neg, decide_eq_true_eq, Ev.s2 Kx, List.append_nil, List.take_of_length_le]
 | y :: ys, x, o, h, h0, ho, hy, Kx => by
  obtain ⟨e1, e2, e3⟩ := qQ h h0
  have hy0 := hy y List.mem_cons_self
  have cn := fun R => qGh (x := y) hy0.1 hy0.2 R
  refine Ev.suc.trans ?_
  simp (disch := omega) only [Z12.l3, Z12.l3.b, if_pos, decide_eq_true_eq, qD, e2, and_self, cn, qC]
  rw [qGg hl ys (x + 1) _ e3 (by omega) (by simpa using ho) (fun z hz => hy z (List.mem_cons_of_mem _ hz)), Ev.s2 Kx, qCf h0 (by omega), List.append_assoc]; rfl
theorem qBZ {t : List qA} (h : TmS t) (R : Nat -> List qA -> Prop) :
  Ev (fun n => Z12.c n t (R n)) ↔ Ev (fun n => R n t) := by
 have hl : t.length <= 1048576 := by have h : t.length + vQ t <= 1048576 := h; omega
 have lp := fun Kx => qGg (z := []) hl t 0 (List.replicate t.length (0, 0, 0, 0, 0, [], [])) rfl (by omega) (by simp) h.mem Kx
 refine Ev.suc.trans ?_
 simp (disch := omega) only [Z12.c, Z12.w, qD, decide_true, Bool.and_true, Int.toNat_natCast, lp, Int.toNat_zero, List.take_zero, List.nil_append, Ev.s1 R]
theorem qH8 {t z : List qA} (hl : t.length <= 1048576) : ∀ (ys : List qA) (x : Int) (o : List qA), t.drop x.toNat = ys -> 0 <= x -> o.length = x.toNat -> (∀ y ∈ ys, y.2.2.2.2.2.1.length <= 1048576 /\ y.2.2.2.2.2.2.length <= 1048576) ->
  ∀ Kx : Nat -> List qA -> List qA -> Prop, (Ev (fun n => Z50.l3 n z t x o (Kx n)) ↔ Ev (fun n => Kx n z (o ++ ys)))
 | [], x, o, h, h0, ho, hy, Kx => by
  have := qY h h0
  refine Ev.suc.trans ?_
  simp (disch := omega) only [Z50.l3, Z50.l3.b, if_neg, decide_eq_true_eq, Ev.s2 Kx, List.append_nil]
 | y :: ys, x, o, h, h0, ho, hy, Kx => by
  obtain ⟨e1, e2, e3⟩ := qQ h h0
  have hy0 := hy y List.mem_cons_self
  have cn := fun R => qG5 (x := y) hy0.1 hy0.2 R
  refine Ev.suc.trans ?_
  simp (disch := first | omega | (simp only [List.length_cons, List.length_nil]; omega)) only [Z50.l3, Z50.l3.b, if_pos, decide_eq_true_eq, qD, qT, e2, and_self, cn, qC]
  rw [qH8 hl ys (x + 1) _ e3 (by omega) (by simp; omega) (fun z hz => hy z (List.mem_cons_of_mem _ hz)), Ev.s2 Kx, List.append_assoc]; rfl
theorem qC5 {t : List qA} (h : TmS t) (R : Nat -> List qA -> Prop) :
  Ev (fun n => Z50.c n t (R n)) ↔ Ev (fun n => R n t) := by
 have hl : t.length <= 1048576 := by have h : t.length + vQ t <= 1048576 := h; omega
 have lp := fun Kx => qH8 (z := []) hl t 0 [] rfl (by omega) rfl h.mem Kx
 refine Ev.suc.trans ?_
 simp (disch := omega) only [Z50.c, Z50.w, lp, List.nil_append, Ev.s1 R]
def LtS (l : List qE) : Prop := l.length + qX l <= 1048576
theorem LtS.mem {l : List qE} (h : LtS l) : ∀ y ∈ l, TmS y.2.2.1 /\ TmS y.2.2.2 := fun y hy => by
 have := qAV hy; have h : l.length + qX l <= 1048576 := h
 constructor <;> (unfold TmS; omega)
theorem qGj {l : List qE} (hl : l.length <= 1048576) : ∀ (ys : List qE) (x : Int) (o : List qE), l.drop x.toNat = ys -> 0 <= x -> o.length = l.length -> (∀ y ∈ ys, TmS y.2.2.1 /\ TmS y.2.2.2) ->
  ∀ Kx : Nat -> List qE -> Prop, (Ev (fun n => Z9.l3 n l l.length x o (Kx n)) ↔ Ev (fun n => Kx n (o.take x.toNat ++ ys)))
 | [], x, o, h, h0, ho, hy, Kx => by
  have := qY h h0
  refine Ev.suc.trans ?_
  simp (disch := omega) only [Z9.l3, Z9.l3.b, if_neg, decide_eq_true_eq, Ev.s1 Kx, List.append_nil, List.take_of_length_le]
 | y :: ys, x, o, h, h0, ho, hy, Kx => by
  obtain ⟨e1, e2, e3⟩ := qQ h h0
  have hy0 := hy y List.mem_cons_self
  have c1 := fun R => qBZ hy0.1 R
  have c2 := fun R => qBZ hy0.2 R
  refine Ev.suc.trans ?_
  simp (disch := omega) only [Z9.l3, Z9.l3.b, Z9.j3, if_pos, decide_eq_true_eq, qD, e2, and_self, c1, c2, qC]
  rw [qGj hl ys (x + 1) _ e3 (by omega) (by simpa using ho) (fun z hz => hy z (List.mem_cons_of_mem _ hz)), Ev.s1 Kx, qCf h0 (by omega), List.append_assoc]; rfl
theorem qGi {l : List qE} (h : LtS l) (R : Nat -> List qE -> Prop) :
  Ev (fun n => Z9.c n l (R n)) ↔ Ev (fun n => R n l) := by
 have hl : l.length <= 1048576 := by have h : l.length + qX l <= 1048576 := h; omega
 have lp := fun Kx => qGj hl l 0 (List.replicate l.length (0, false, [], [])) rfl (by omega) (by simp) h.mem Kx
 refine Ev.suc.trans ?_
 simp (disch := omega) only [Z9.c, Z9.w, qD, decide_true, Bool.and_true, Int.toNat_natCast, lp, Int.toNat_zero, List.take_zero, List.nil_append, Ev.s1 R]
theorem qH9 {l : List qE} (hl : l.length <= 1048576) : ∀ (ys : List qE) (x : Int) (o : List qE), l.drop x.toNat = ys -> 0 <= x -> o.length = x.toNat -> (∀ y ∈ ys, TmS y.2.2.1 /\ TmS y.2.2.2) ->
  ∀ Kx : Nat -> List qE -> Prop, (Ev (fun n => Z51.l3 n l x o (Kx n)) ↔ Ev (fun n => Kx n (o ++ ys)))
 | [], x, o, h, h0, ho, hy, Kx => by
  have := qY h h0
  refine Ev.suc.trans ?_
  simp (disch := omega) only [Z51.l3, Z51.l3.b, if_neg, decide_eq_true_eq, Ev.s1 Kx, List.append_nil]
 | y :: ys, x, o, h, h0, ho, hy, Kx => by
  obtain ⟨e1, e2, e3⟩ := qQ h h0
  have hy0 := hy y List.mem_cons_self
  have c1 := fun R => qC5 hy0.1 R
  have c2 := fun R => qC5 hy0.2 R
  refine Ev.suc.trans ?_
  simp (disch := first | omega | (simp only [List.length_cons, List.length_nil]; omega)) only [Z51.l3, Z51.l3.b, if_pos, decide_eq_true_eq, qD, qT, e2, and_self, c1, c2, qC]
  rw [qH9 hl ys (x + 1) _ e3 (by omega) (by simp; omega) (fun z hz => hy z (List.mem_cons_of_mem _ hz)), Ev.s1 Kx, List.append_assoc]; rfl
theorem qC6 {l : List qE} (h : LtS l) (R : Nat -> List qE -> Prop) :
  Ev (fun n => Z51.c n l (R n)) ↔ Ev (fun n => R n l) := by
 have hl : l.length <= 1048576 := by have h : l.length + qX l <= 1048576 := h; omega
 have lp := fun Kx => qH9 hl l 0 [] rfl (by omega) rfl h.mem Kx
 refine Ev.suc.trans ?_
 simp (disch := omega) only [Z51.c, Z51.w, lp, List.nil_append, Ev.s1 R]
theorem qCB : ∀ {l m : List qE}, qX (l ++ m) = qX l + qX m
 | [], m => by simp [qX]
 | y :: l, m => by rw [List.cons_append, qX, qX, qCB (l := l)]; omega
theorem wW : ∀ {s : List qF}, (qW s).length + qX (qW s) <= qV s
 | [] => Nat.le_refl _
 | x :: r => by
  have := wW (s := r)
  rw [qW, List.length_append, qCB, qV]
  omega
theorem qIk {d : List qB} {s : List qF} {next : Int} (hs : s.length + qV s <= 1048576) : ∀ (ys : List qF) (k : Int) (acc : List qE), s.drop k.toNat = ys -> 0 <= k -> acc.length + (qW ys).length <= 1048576 -> (∀ y ∈ ys, LtS y.2) -> ∀ (Kx : Nat -> List qE -> Prop),
  (Ev (fun n => Z72.l3 n d s next k acc (Kx n)) ↔ Ev (fun n => Kx n (acc ++ qW ys)))
 | [], k, acc, h, h0, hb, hy, Kx => by
  have := qY h h0
  refine Ev.suc.trans ?_
  simp (disch := omega) only [Z72.l3, Z72.l3.b, if_neg, decide_eq_true_eq, Ev.s1 Kx, qW, List.append_nil]
 | y :: ys, k, acc, h, h0, hb, hy, Kx => by
  obtain ⟨e1, e2, e3⟩ := qQ h h0
  have cl := fun R => qC6 (hy y List.mem_cons_self) R
  rw [qW, List.length_append] at hb
  refine Ev.suc.trans ?_
  simp (disch := omega) only [Z72.l3, Z72.l3.b, if_pos, decide_eq_true_eq, qD, qT, e2, cl, qC]
  rw [qIk hs ys (k + 1) (acc ++ y.2) e3 (by omega) (by rw [List.length_append]; omega) (fun z hz => hy z (List.mem_cons_of_mem _ hz)), Ev.s1 Kx, qW, List.append_assoc]
theorem qNc {d : List qB} {s : List qF} {next : Int} (hs : s.length + qV s <= 1048576) (R : Nat -> List qE -> Prop) :
  Ev (fun n => Z72.c n d s next (R n)) ↔ Ev (fun n => R n (qW s)) := by
 have ha := wW (s := s)
 have lp := fun Kx => qIk (d := d) (next := next) hs s 0 [] rfl (by omega) (by rw [List.length_nil]; omega) (fun y hy => by have := wA hy; unfold LtS; omega) Kx
 refine Ev.suc.trans ?_
 simp (disch := omega) only [Z72.c, Z72.w, lp, List.nil_append, Ev.s1 R]
theorem qEL {l : List qB} (hl : l.length <= 1048576) (R : Nat -> List qB -> Prop) :
  Ev (fun n => Z28.c n l (R n)) ↔ Ev (fun n => R n l) := by
 refine Ev.suc.trans ?_
 simp (disch := (simp only [List.length_nil]; omega)) only [Z28.c, Z28.w, Z28.j0, if_true, Bool.false_eq_true, if_false, Ev.andI, Ev.impI, qT, List.nil_append, Ev.s1 R]
 constructor
 ·exact fun h => h.2
 ·refine fun h => ⟨fun e => ?_, h⟩
  rw [List.eq_nil_of_length_eq_zero e] at h; exact h
theorem qD9 {s : List qF} {x52 x54 : List qB} {x55 : List qF} {x56 x57 : Int} (hl : s.length <= 1048576) : ∀ (ys : List qF) (x : Int) (o : List qF), s.drop x.toNat = ys -> 0 <= x -> o.length = s.length -> (∀ y ∈ ys, LtS y.2) ->
  ∀ Kx : Nat -> List qB -> List qF -> List qB -> List qF -> Int -> Int -> Prop, (Ev (fun n => Z11.l3 n s s.length x52 x54 x55 x56 x57 x o (Kx n)) ↔ Ev (fun n => Kx n x52 (o.take x.toNat ++ ys) x54 x55 x56 x57))
 | [], x, o, h, h0, ho, hy, Kx => by
  have := qY h h0
  refine Ev.suc.trans ?_
  simp (disch := omega) only [Z11.l3, Z11.l3.b, if_neg, decide_eq_true_eq, List.append_nil, List.take_of_length_le]
  exact Ev.s6 Kx _ _ _ _ _ _
 | y :: ys, x, o, h, h0, ho, hy, Kx => by
  obtain ⟨e1, e2, e3⟩ := qQ h h0
  have c1 := fun R => qGi (hy y List.mem_cons_self) R
  refine Ev.suc.trans ?_
  simp (disch := omega) only [Z11.l3, Z11.l3.b, if_pos, decide_eq_true_eq, qD, e2, and_self, c1, qC]
  refine (qD9 (x52 := x52) (x54 := x54) (x55 := x55) (x56 := x56) (x57 := x57) hl ys (x + 1) _ e3 (by omega) (by simpa using ho) (fun z hz => hy z (List.mem_cons_of_mem _ hz)) (fun n => Kx (n + 1))).trans ((Ev.s6 Kx _ _ _ _ _ _).trans ?_)
  rw [qCf h0 (by omega), List.append_assoc]; rfl
theorem qC7 {d : List qB} {s : List qF} {next : Int} (hd : d.length <= 1048576) (hs : s.length + qV s <= 1048576) (R : Nat -> List qB -> List qF -> Int -> Prop) :
  Ev (fun n => Z11.c n d s next (R n)) ↔ Ev (fun n => R n d s next) := by
 have q : ∀ (o : List qF) (x10 x12 : List qB) (x11 : List qF) (x14 x15 : Int) (R : Nat -> List qB -> List qF -> Int -> Prop), o.length = s.length -> (Ev (fun n => Z11.q2 n d o x10 x11 x12 s x14 x15 next (R n)) ↔ Ev (fun n => R n d s next)) := fun o x10 x12 x11 x14 x15 R ho => by
  refine Ev.suc.trans ?_
  simp only [Z11.q2, Z11.q2.b]
  refine (qD9 (by omega) s 0 o rfl (by omega) ho (fun y hy => by have := wA hy; unfold LtS; omega) (fun n a b c d e f => R (n + 1) a b f)).trans ?_
  rw [Int.toNat_zero, List.take_zero, List.nil_append]
  exact Ev.s3 R _ _ _
 have cd := fun R => qEL hd R
 refine Ev.suc.trans ?_
 simp (disch := omega) only [Z11.c, Z11.w, qD, decide_true, Bool.and_true, Int.toNat_natCast, and_self, cd]
 refine (q _ _ _ _ _ _ _ (by simp)).trans ?_
 exact Ev.s3 R _ _ _
theorem qGe {s : List qF} {x109 x110 x113 : List qB} {x111 : List qF} {x115 x116 x117 : Int} (hl : s.length <= 1048576) : ∀ (ys : List qF) (x : Int) (o : List qF), s.drop x.toNat = ys -> 0 <= x -> o.length = x.toNat -> (∀ y ∈ ys, LtS y.2) ->
  ∀ Kx : Nat -> List qB -> List qB -> List qF -> List qF -> Int -> Int -> Prop, (Ev (fun n => Z73.l3 n x109 x110 x111 x113 s x115 x116 x117 x o (Kx n)) ↔ Ev (fun n => Kx n x109 x110 x111 (o ++ ys) x116 x117))
 | [], x, o, h, h0, ho, hy, Kx => by
  have := qY h h0
  refine Ev.suc.trans ?_
  simp (disch := omega) only [Z73.l3, Z73.l3.b, if_neg, decide_eq_true_eq, List.append_nil]
  exact Ev.s6 Kx _ _ _ _ _ _
 | y :: ys, x, o, h, h0, ho, hy, Kx => by
  obtain ⟨e1, e2, e3⟩ := qQ h h0
  have c1 := fun R => qC6 (hy y List.mem_cons_self) R
  refine Ev.suc.trans ?_
  simp (disch := first | omega | (simp only [List.length_cons, List.length_nil]; omega)) only [Z73.l3, Z73.l3.b, if_pos, decide_eq_true_eq, qD, qT, e2, and_self, c1, qC]
  refine (qGe (x109 := x109) (x110 := x110) (x111 := x111) (x113 := x113) (x115 := x115) (x116 := x116) (x117 := x117) hl ys (x + 1) _ e3 (by omega) (by simp; omega) (fun z hz => hy z (List.mem_cons_of_mem _ hz)) (fun n => Kx (n + 1))).trans ((Ev.s6 Kx _ _ _ _ _ _).trans ?_)
  rw [List.append_assoc]; rfl
theorem wO {d : List qB} {s : List qF} {next : Int} (hd : d.length <= 1048576) (hs : s.length + qV s <= 1048576) (R : Nat -> List qB -> List qF -> Int -> Prop) :
  Ev (fun n => Z73.c n d s next (R n)) ↔ Ev (fun n => R n d s next) := by
 have lp := fun (x110 x113 : List qB) (x111 : List qF) (x115 x116 x117 : Int) Kx => qGe (x109 := d) (x110 := x110) (x111 := x111) (x113 := x113) (x115 := x115) (x116 := x116) (x117 := x117) (by omega) s 0 [] rfl (by omega) rfl (fun y hy => by have := wA hy; unfold LtS; omega) Kx
 refine Ev.suc.trans ?_
 simp (disch := (simp only [List.length_nil]; omega)) only [Z73.c, Z73.w, qT, List.nil_append, and_self]
 refine (lp _ _ _ _ _ _ (fun n a b c d e f => R (n + 1) a d f)).trans ?_
 exact Ev.s3 R _ _ _
def xO (d : List qB) (s : List qF) (next : Int) : (List qB × List qF × Int) × Int :=
 if jQ d s next = true then (if s.length = 20 then ((d, s, next), 5) else ((d, s ++ [((d.length : Int), [])], next), 0)) else (([], [], 0), 1)
theorem qID {d : List qB} {s : List qF} {next : Int} (hd : d.length <= 1048576) (hs : s.length + qV s <= 1048576) (hg : ∀ y ∈ s, qI2 y.2) (R : Nat -> List qB -> List qF -> Int -> Int -> Prop) :
  Ev (fun n => Z42.c n d s next (R n)) ↔ Ev (fun n => R n (xO d s next).1.1 (xO d s next).1.2.1 (xO d s next).1.2.2 (xO d s next).2) := by
 have ha := wW (s := s)
 have ok := fun R => kG (d := d) (s := s) (next := next) (by omega) (by omega) (by omega) hg R
 have cl := fun R => wO (d := d) (s := s) (next := next) hd hs R
 refine Ev.suc.trans ?_
 simp (disch := (simp only [List.length_cons, List.length_nil]; omega)) only [Z42.c, Z42.w, ok, cl, qT, Ev.iteI, Bool.not_eq_true', decide_eq_true_eq, Ev.s4 R, xO]
 by_cases h : jQ d s next = true
 ·rw [if_neg (by rw [h]; decide), if_pos h]
  by_cases h2 : s.length = 20
  ·rw [if_pos (by omega), if_pos h2]
  ·rw [if_neg (by omega), if_neg h2]
 ·rw [if_pos (by simpa using h), if_neg h]
theorem qAy : ∀ {l m : List qF}, qV (l ++ m) = qV l + qV m
 | [], m => by simp [qV]
 | y :: l, m => by rw [List.cons_append, qV, qV, qAy (l := l)]; omega
def qBJ : List qB -> Int
 | [] => 0
 | y :: r => y.2 + qBJ r
theorem qHt {d : List qB} (hl : d.length <= 1048576) : ∀ (ys : List qB) (x a : Int), d.drop x.toNat = ys -> 0 <= x -> 0 <= a -> (∀ y ∈ ys, 0 <= y.2) -> a + qBJ ys <= 1048576 -> ∀ Kx : Nat -> Int -> Prop,
  (Ev (fun n => Z18.l3 n d d.length a x (Kx n)) ↔ Ev (fun n => Kx n (a + qBJ ys)))
 | [], x, a, h, h0, ha, hy, hb, Kx => by
  have := qY h h0
  refine Ev.suc.trans ?_
  simp (disch := omega) only [Z18.l3, Z18.l3.b, if_neg, decide_eq_true_eq, Ev.s1 Kx, qBJ, Int.add_zero]
 | y :: ys, x, a, h, h0, ha, hy, hb, Kx => by
  obtain ⟨e1, e2, e3⟩ := qQ h h0
  have h1 := hy y List.mem_cons_self
  have h2 : ∀ {l : List qB}, (∀ y ∈ l, 0 <= y.2) -> 0 <= qBJ l := by
   intro l
   induction l with
   | nil => intro _; exact Int.le_refl _
   | cons z l ih =>
    intro hz
    have := ih fun w hw => hz w (List.mem_cons_of_mem _ hw)
    have := hz z List.mem_cons_self
    rw [qBJ]; omega
  have h3 := h2 (l := ys) fun z hz => hy z (List.mem_cons_of_mem _ hz)
  rw [qBJ] at hb
  refine Ev.suc.trans ?_
  simp (disch := omega) only [Z18.l3, Z18.l3.b, if_pos, decide_eq_true_eq, qD, e2, qC]
  rw [qHt hl ys (x + 1) (a + y.2) e3 (by omega) (by omega) (fun z hz => hy z (List.mem_cons_of_mem _ hz)) (by omega), Ev.s1 Kx, qBJ, Int.add_assoc]
theorem qAD : ∀ {l pre : List qB} {t : Int}, jW pre l t = true -> (∀ y ∈ l, 1 <= y.2) /\ t + qBJ l <= 20000
 | [], pre, t, h => by
  rw [jW, decide_eq_true_eq] at h
  exact ⟨fun y hy => (by cases hy), by rw [qBJ]; omega⟩
 | y :: l, pre, t, h => by
  rw [jW, Bool.and_eq_true, Bool.and_eq_true, Bool.and_eq_true, decide_eq_true_eq] at h
  obtain ⟨h1, h2⟩ := qAD h.2
  refine ⟨fun z hz => ?_, by rw [qBJ]; omega⟩
  rcases List.mem_cons.1 hz with rfl | hz
  ·exact h.1.1.2.1
  ·exact h1 z hz
theorem xT {y : qB} (hn : kR y.1 = true) (hw : 1 <= y.2 /\ y.2 <= 4096) : ∀ {l pre : List qB} {t : Int}, jW pre l t = true -> ((pre ++ l).any fun z => decide (z.1 = y.1)) = false -> jW pre (l ++ [y]) t = decide (t + qBJ l + y.2 <= 20000)
 | [], pre, t, h, ha => by
  rw [List.append_nil] at ha
  rw [List.nil_append, jW, hn, decide_eq_true hw, ha, jW, qBJ, Int.add_zero]; rfl
 | z :: l, pre, t, h, ha => by
  rw [jW, Bool.and_eq_true] at h
  rw [List.cons_append, jW, h.1, Bool.true_and, xT hn hw h.2 (by rw [List.append_assoc]; exact ha), qBJ, Int.add_assoc t]
theorem qLj {d : List qB} (h : jL d = true) (R : Nat -> Int -> Prop) : Ev (fun n => Z18.c n d (R n)) ↔ Ev (fun n => R n (qBJ d)) := by
 rw [jL, Bool.and_eq_true, decide_eq_true_eq] at h
 obtain ⟨h1, h2⟩ := qAD h.2
 refine Ev.suc.trans ?_
 simp only [Z18.c, Z18.w]
 refine (qHt (by omega) d 0 0 rfl (by omega) (by omega) (fun y hy => by have := h1 y hy; omega) (by omega) (fun n => R (n + 1))).trans ?_
 rw [Int.zero_add]; exact Ev.s1 R _
theorem qKe {d : List qB} {z : List UInt8} (hl : d.length <= 1048576) : ∀ (ys : List qB) (x : Int), d.drop x.toNat = ys -> 0 <= x -> ∀ (Kx : Nat -> Prop) (Kr : Nat -> Int -> Prop),
  (Ev (fun n => Z79.l2 n d z x (Kx n) (Kr n)) ↔ if jA (fun y => decide (y.1 = z)) ys x < 0 then Ev Kx else Ev (fun n => Kr n (jA (fun y => decide (y.1 = z)) ys x)))
 | [], x, h, h0, Kx, Kr => by
  have := qY h h0
  rw [jA, if_pos (by decide)]
  refine Ev.suc.trans ?_
  simp (disch := omega) only [Z79.l2, Z79.l2.b, if_neg, decide_eq_true_eq, Ev.s0 Kx]
 | y :: ys, x, h, h0, Kx, Kr => by
  obtain ⟨e1, e2, e3⟩ := qQ h h0
  refine Ev.suc.trans ?_
  simp (disch := omega) only [Z79.l2, Z79.l2.b, if_pos, decide_eq_true_eq, qD, e2, qC, Ev.iteI, beq_iff_eq, Ev.s1 Kr]
  rw [jA]
  by_cases hy : y.1 = z
  ·rw [if_pos hy]
   simp only [hy, decide_true, if_true]
   rw [if_neg (by omega)]
  ·rw [if_neg hy]
   simp only [hy, decide_false, Bool.false_eq_true, if_false]
   rw [qKe hl ys (x + 1) e3 (by omega) (fun n => Kx (n + 1)) (fun n => Kr (n + 1)), Ev.s0 Kx, Ev.s1 Kr]
theorem qGU {d : List qB} {z : List UInt8} (hl : d.length <= 1048576) (R : Nat -> Int -> Prop) :
  Ev (fun n => Z79.c n d z (R n)) ↔ Ev (fun n => R n (jA (fun y => decide (y.1 = z)) d 0)) := by
 refine Ev.suc.trans ?_
 simp only [Z79.c, Z79.w]
 refine (qKe hl d 0 rfl (by omega) (fun n => R (n + 1) (-1)) (fun n => R (n + 1))).trans ?_
 by_cases h : jA (fun y : qB => decide (y.1 = z)) d 0 < 0
 ·rw [if_pos h, yX (by omega) h]; exact Ev.s1 R _
 ·rw [if_neg h]; exact Ev.s1 R _
theorem yE {α : Type} {p : α -> Bool} : ∀ {l : List α} {x : Int}, 0 <= x -> jA p l x < 0 -> l.any p = false
 | [], x, h0, h => rfl
 | y :: l, x, h0, h => by
  rw [jA] at h
  split at h
  ·omega
  ·rename_i hy
   rw [List.any_cons, yE (by omega) h]; simpa using hy
def zR (d : List qB) (s : List qF) (next : Int) (z : List UInt8) (w : Int) : (List qB × List qF × Int) × Int :=
 if jQ d s next = true then
  (if kR z = false then ((d, s, next), 2)
  else if 0 <= jA (fun y : qB => decide (y.1 = z)) d 0 then ((d, s, next), 3)
  else if ¬ (1 <= w /\ w <= 4096) then ((d, s, next), 4)
  else if d.length = 60 \/ 20000 < qBJ d + w then ((d, s, next), 5)
  else ((d ++ [(z, w)], s, next), 0))
 else (([], [], 0), 1)
theorem yS {d : List qB} {s : List qF} {next : Int} (h : jQ d s next = true) : jL d = true := by
 simp only [jQ, Bool.and_eq_true] at h
 exact h.1.1.1.1.1.1.1.1
theorem qGc {d : List qB} {s : List qF} {next w : Int} {z : List UInt8} (hd : d.length <= 1048576) (hs : s.length + qV s <= 1048576) (R : Nat -> List qB -> List qF -> Int -> Int -> Prop) :
  Ev (fun n => Z1.c n d s next z w (R n)) ↔ Ev (fun n => R n (zR d s next z w).1.1 (zR d s next z w).1.2.1 (zR d s next z w).1.2.2 (zR d s next z w).2) := by
 have ha := wW (s := s)
 have ok := fun R => qBK (d := d) (s := s) (next := next) (by omega) (by omega) (by omega) R
 have cl := fun R => qC7 (d := d) (s := s) (next := next) hd hs R
 have dc := fun R => qC4 (l := d) (z := z) (by omega) R
 refine Ev.suc.trans ?_
 simp (disch := (simp only [List.length_cons, List.length_nil]; omega)) only [Z1.c, Z1.w, Z1.j0, ok, cl, qFL, dc, vF, qT, Ev.iteI, Bool.not_eq_true', decide_eq_true_eq, decide_eq_false_iff_not, Ev.s4 R, zR]
 by_cases h : jQ d s next = true
 ·rw [if_neg (by rw [h]; decide), if_pos h]
  have hdo := yS h
  have tt := fun R => qLj hdo R
  simp only [tt, Ev.iteI, decide_eq_true_eq, Ev.s4 R]
  by_cases h1 : kR z = false
  ·rw [if_pos h1, if_pos h1]
  ·rw [if_neg h1, if_neg h1]
   by_cases h2 : 0 <= jA (fun y : qB => decide (y.1 = z)) d 0
   ·rw [if_pos h2, if_pos h2]
   ·rw [if_neg h2, if_neg h2]
    by_cases h3 : 1 <= w /\ w <= 4096
    ·rw [if_neg (show ¬ ¬ (1 <= w /\ w <= 4096) from fun h => h h3), if_neg (show ¬ ¬ (1 <= w /\ w <= 4096) from fun h => h h3)]
     by_cases h4 : d.length = 60
     ·rw [if_neg (by omega), if_pos (Or.inl h4)]
     ·rw [if_pos (by omega)]
      rw [jL, Bool.and_eq_true, decide_eq_true_eq] at hdo
      obtain ⟨g1, g2⟩ := qAD hdo.2
      have h2' : ∀ {l : List qB}, (∀ y ∈ l, 1 <= y.2) -> 0 <= qBJ l := by
       intro l
       induction l with
       | nil => intro _; exact Int.le_refl _
       | cons z l ih =>
        intro hz
        have := ih fun w hw => hz w (List.mem_cons_of_mem _ hw)
        have := hz z List.mem_cons_self
        rw [qBJ]; omega
      have := h2' g1
      rw [qC (by omega) (by omega)]
      by_cases h5 : 20000 < qBJ d + w
      ·rw [if_pos h5, if_pos (Or.inr h5)]
      ·rw [if_neg h5, if_neg (show ¬ (d.length = 60 \/ 20000 < qBJ d + w) from fun h => h.elim h4 h5)]
    ·rw [if_pos h3, if_pos h3]
 ·rw [if_pos (by simpa using h), if_neg h]
theorem qD7 {d : List qB} {s : List qF} {next w : Int} {z : List UInt8} (hd : d.length <= 1048576) (hs : s.length + qV s <= 1048576) (hg : ∀ y ∈ s, qI2 y.2) (R : Nat -> List qB -> List qF -> Int -> Int -> Prop) :
  Ev (fun n => Z37.c n d s next z w (R n)) ↔ Ev (fun n => R n (zR d s next z w).1.1 (zR d s next z w).1.2.1 (zR d s next z w).1.2.2 (zR d s next z w).2) := by
 have ha := wW (s := s)
 have ok := fun R => kG (d := d) (s := s) (next := next) (by omega) (by omega) (by omega) hg R
 have cl := fun R => wO (d := d) (s := s) (next := next) hd hs R
 have dc := fun R => qGU (d := d) (z := z) hd R
 refine Ev.suc.trans ?_
 simp (disch := (simp only [List.length_cons, List.length_nil]; omega)) only [Z37.c, Z37.w, ok, cl, qCV, dc, vK, qT, List.nil_append, kW, Ev.iteI, Bool.not_eq_true', decide_eq_true_eq, decide_eq_false_iff_not, Ev.s4 R, zR]
 by_cases h : jQ d s next = true
 ·rw [if_neg (by rw [h]; decide), if_pos h]
  have hdo := yS h
  by_cases h1 : kR z = false
  ·rw [if_pos h1, if_pos h1]
  ·rw [if_neg h1, if_neg h1]
   by_cases h2 : 0 <= jA (fun y : qB => decide (y.1 = z)) d 0
   ·rw [if_pos h2, if_pos h2]
   ·rw [if_neg h2, if_neg h2]
    by_cases h3 : 1 <= w /\ w <= 4096
    ·rw [if_neg (show ¬ ¬ (1 <= w /\ w <= 4096) from fun h => h h3), if_neg (show ¬ ¬ (1 <= w /\ w <= 4096) from fun h => h h3)]
     rw [jL, Bool.and_eq_true, decide_eq_true_eq] at hdo
     have sn := xT (y := (z, w)) (by simpa using h1) h3 hdo.2 (by rw [List.nil_append]; exact yE (x := 0) (Int.le_refl _) (Int.not_le.1 h2))
     have e : jL (d ++ [(z, w)]) = (decide (d.length + 1 <= 60) && decide (qBJ d + w <= 20000)) := by
      rw [jL, sn, List.length_append, Int.zero_add]; rfl
     rw [e]
     by_cases h4 : d.length = 60
     ·rw [decide_eq_false (show ¬ d.length + 1 <= 60 by omega), Bool.false_and, if_pos rfl, if_pos (Or.inl h4)]
     ·rw [decide_eq_true (show d.length + 1 <= 60 by omega), Bool.true_and]
      by_cases h5 : 20000 < qBJ d + w
      ·rw [decide_eq_false (show ¬ qBJ d + w <= 20000 by omega), if_pos rfl, if_pos (Or.inr h5)]
      ·rw [decide_eq_true (show qBJ d + w <= 20000 by omega), if_neg (show ¬ true = false by decide), if_neg (show ¬ (d.length = 60 \/ 20000 < qBJ d + w) from fun h => h.elim h4 h5)]
    ·rw [if_pos h3, if_pos h3]
 ·rw [if_pos (by simpa using h), if_neg h]
def qIs (d : List qB) : Prop := 1 <= d.length /\ d.length <= 14 /\ ∀ x ∈ d, 1 <= x.2 /\ x.2 <= 200
theorem qEv {α : Type} [Inhabited α] {l : List α} {P : α -> Prop} (h : ∀ x ∈ l, P x) {i : Nat} (hi : i < l.length) : P (rd l i) := by
 simp only [rd, List.getD_eq_getElem?_getD, List.getElem?_eq_getElem hi, Option.getD_some]
 exact h _ (List.getElem_mem hi)
theorem qCh {α : Type} {l r : List α} {P : α -> Prop} (h : ∀ x ∈ l, P x) (h' : ∀ x ∈ r, P x) : ∀ x ∈ l ++ r, P x := fun x hx => (List.mem_append.1 hx).elim (h x) (h' x)
theorem qAb {α : Type} {y : α} {P : α -> Prop} (h : P y) : ∀ x ∈ [y], P x := fun x hx => by rw [List.mem_singleton.1 hx]; exact h
theorem qHD {a b : Int} {l l' : List Int} (hl : l.length <= 1099511627776) (hll : l.length = l'.length) : ∀ (ys ys' : List Int) (x : Int), l.drop x.toNat = ys -> l'.drop x.toNat = ys' -> 0 <= x -> ∀ (Kx : Nat -> Prop) (Kr : Nat -> Bool -> Prop),
  (Ev (fun n => Z23.l4 n a l b l' x (Kx n) (Kr n)) ↔ if ys = ys' then Ev Kx else Ev (fun n => Kr n false))
 | [], [], x, h, h', h0, Kx, Kr => by
  have := qY h h0
  refine Ev.suc.trans ?_
  simp (disch := omega) only [Z23.l4, Z23.l4.b, if_neg, decide_eq_true_eq, Ev.s0 Kx, if_true]
 | [], y' :: ys', x, h, h', h0, Kx, Kr => by
  have := qY h h0; have := (qQ h' h0).1; omega
 | y :: ys, [], x, h, h', h0, Kx, Kr => by
  have := qY h' h0; have := (qQ h h0).1; omega
 | y :: ys, y' :: ys', x, h, h', h0, Kx, Kr => by
  obtain ⟨e1, e2, e3⟩ := qQ h h0
  obtain ⟨_, f2, f3⟩ := qQ h' h0
  refine Ev.suc.trans ?_
  simp (disch := omega) only [Z23.l4, Z23.l4.b, if_pos, decide_eq_true_eq, Ev.s0 Kx, Ev.s1 Kr, qD, e2, f2, qC, Ev.iteI, Bool.not_eq_true', decide_eq_false_iff_not]
  rw [qHD hl hll ys ys' (x + 1) e3 f3 (by omega), Ev.s0 Kx, Ev.s1 Kr]
  simp only [List.cons.injEq]
  (repeat' split) <;> first | rfl | (exfalso; simp_all; done)
theorem qLm {a b : Int} {l l' : List Int} (hl : l.length <= 1099511627776) (R : Nat -> Bool -> Prop) :
  Ev (fun n => Z23.c n a l b l' (R n)) ↔ Ev (fun n => R n (decide (a = b /\ l = l'))) := by
 refine Ev.suc.trans ?_
 simp (disch := omega) only [Z23.c, Z23.w, Ev.iteI, Bool.not_eq_true', Bool.not_eq_false', decide_eq_true_eq, decide_eq_false_iff_not, Ev.s1 R]
 split
 ·split
  ·rw [decide_eq_false]; rintro ⟨_, e⟩; subst e; omega
  ·rw [qHD hl (by omega) l l' 0 rfl rfl (by omega), Ev.s1 R, Ev.s1 R]
   split
   ·rw [decide_eq_true ⟨‹_›, ‹_›⟩]
   ·rw [decide_eq_false]; simp_all
 ·rw [decide_eq_false]; simp_all
def yK (n : Nat) (x : qA) : Prop := Wd x.2.2.2.2.2.1 /\ x.2.2.2.2.2.1.length <= 4096 /\ x.2.2.2.2.2.2.length <= 3 /\ ∀ k ∈ x.2.2.2.2.2.2, 0 <= k /\ k < (n : Int)
theorem yK.mono {n m : Nat} {x : qA} (h : yK n x) (hm : n <= m) : yK m x := ⟨h.1, h.2.1, h.2.2.1, fun k hk => by have := h.2.2.2 k hk; omega⟩
def qNe (t : List qA) : Prop := 1 <= t.length /\ t.length <= 16 /\ ∀ x ∈ t, Wd x.2.2.2.2.2.1 /\ x.2.2.2.2.2.1.length <= 4096 /\ x.2.2.2.2.2.2.length <= 3
theorem qG4 {a b c e f : Int} {w ks : List Int} {R : Nat -> Int -> Int -> Int -> Int -> Int -> List Int -> List Int -> Prop} (hw : w.length <= 4096) (hk : ks.length <= 4096) (h : Ev (fun n => R n a b c e f w ks)) :
  Ev (fun n => Z78.c n a b c e f w ks (R n)) := by
 refine Ev.succ ?_
 simp only [Z78.c, Z78.w, and_self, List.nil_append]
 exact Ev.grd (by simp; omega) (Ev.grd (by simp; omega) h.shift)
theorem qDO {N : List qA} {i : Int} {out : List qA} {used : List Bool} {to w : List Int} {a b c e f : Int} (hto : to.length <= 1000) : ∀ (m : Nat) (x : Int) (ks : List Int), x + m = ks.length -> 0 <= x -> ks.length <= 1000 -> (∀ k ∈ ks.drop x.toNat, 0 <= k /\ k < (to.length : Int)) ->
  ∀ R : Nat -> List qA -> Int -> List qA -> List Bool -> List Int -> List Int -> List Int -> Int -> Int -> Int -> Int -> Int -> Prop, (∀ ks', ks'.length = ks.length -> Ev (fun n => R n N i out used to w ks' a b c e f)) ->
   Ev (fun n => Z88.l18 n N i out used to w a b c e f x ks (R n))
 | 0, x, ks, hx, h0, hl, hk, R, hR => by
  refine Ev.succ ?_
  simp only [Z88.l18, Z88.l18.b]
  exact Ev.neg (by simp; omega) (hR ks rfl).shift
 | m + 1, x, ks, hx, h0, hl, hk, R, hR => by
  have hlt : x.toNat < ks.length := by omega
  have hd : ks.drop x.toNat = rd ks x.toNat :: ks.drop (x.toNat + 1) := by
   rw [List.drop_eq_getElem_cons hlt]; simp [rd, List.getD_eq_getElem?_getD, hlt]
  have hin := hk (rd ks x.toNat) (by rw [hd]; exact List.mem_cons_self)
  refine Ev.succ ?_
  simp only [Z88.l18, Z88.l18.b]
  refine Ev.pos (by simp; omega) (Ev.grd (by simp; omega) (Ev.grd (by simp; omega) (Ev.grd (by simp; omega) ?_)))
  rw [qC (by omega) (by omega)]
  exact qDO hto m (x + 1) _ (by simp; omega) (by omega) (by simpa using hl) (fun k hk' => hk k (by
   rw [show (x + 1).toNat = x.toNat + 1 by omega, List.drop_set_of_lt (by omega)] at hk'
   rw [hd]; exact List.mem_cons_of_mem _ hk')) (fun n => R (n + 1)) fun ks' h' => (hR ks' (by simpa using h')).shift
theorem qFB {N : List qA} {i : Int} {to : List Int} {root : Nat} (h0 : 0 <= i) (hi : i < (N.length : Int)) (hN : N.length <= 1000) (hx : yK N.length (rd N i.toNat)) : ∀ (m : Nat) (k : Int), k + m = (rd N i.toNat).2.2.2.2.2.2.length -> 0 <= k -> ∀ used : List Bool, used.length = N.length -> rd used root = true ->
  ∀ R : Nat -> List qA -> Int -> List Bool -> List Int -> Prop, (∀ u : List Bool, u.length = N.length -> rd u root = true -> Ev (fun n => R n N i u to)) -> Ev (fun n => Z88.l8 n N i to k used (R n))
 | 0, k, hk, hk0, used, hu, hr, R, hR => by
  refine Ev.succ ?_
  simp only [Z88.l8, Z88.l8.b]
  refine Ev.grd (by simp; omega) (Ev.ite (fun _ => Ev.grd (by simp; omega) (Ev.neg (by simp; omega) (hR used hu hr).shift)) fun _ => (hR used hu hr).shift)
 | m + 1, k, hk, hk0, used, hu, hr, R, hR => by
  have hkk := qEv (P := fun z : Int => 0 <= z /\ z < (N.length : Int)) hx.2.2.2 (i := k.toNat) (by omega)
  refine Ev.succ ?_
  simp only [Z88.l8, Z88.l8.b, Z88.j1]
  refine Ev.grd (by simp; omega) (Ev.ite (fun _ => Ev.grd (by simp; omega) (Ev.pos (by simp; omega) (Ev.grd (by simp; omega) (Ev.grd (by simp; omega) (Ev.grd (by simp; omega) ?_))))) fun _ => (hR used hu hr).shift)
  have h3 := hx.2.2.1
  rw [qC (by omega) (by omega)]
  refine qFB h0 hi hN hx m (k + 1) (by omega) (by omega) _ (by simpa using hu) ?_ (fun n => R (n + 1)) fun u h1 h2 => (hR u h1 h2).shift
  generalize (rd (rd N i.toNat).2.2.2.2.2.2 k.toNat).toNat = j
  by_cases hj : j = root
  ·subst hj
   by_cases hl : j < used.length
   ·exact qJx hl
   ·rw [List.set_eq_of_length_le (by omega)]; exact hr
  ·simpa [rd, List.getD_eq_getElem?_getD, List.getElem?_set_ne hj] using hr
theorem qFC {N : List qA} {to : List Int} {root : Nat} (hN : N.length <= 1000) (hx : ∀ x ∈ N, yK N.length x) : ∀ (m : Nat) (i : Int), i + 1 = m -> m <= N.length -> ∀ used : List Bool, used.length = N.length -> rd used root = true ->
  ∀ R : Nat -> List qA -> List Bool -> List Int -> Prop, (∀ u : List Bool, u.length = N.length -> rd u root = true -> Ev (fun n => R n N u to)) -> Ev (fun n => Z88.l5 n N i used to (R n))
 | 0, i, hi, hm, used, hu, hr, R, hR => by
  refine Ev.succ ?_
  simp only [Z88.l5, Z88.l5.b]
  exact Ev.neg (by simp; omega) (hR used hu hr).shift
 | m + 1, i, hi, hm, used, hu, hr, R, hR => by
  refine Ev.succ ?_
  simp only [Z88.l5, Z88.l5.b]
  refine Ev.pos (by simp; omega) (qFB (by omega) (by omega) hN (qEv hx (by omega)) (rd N i.toNat).2.2.2.2.2.2.length 0 (by omega) (by omega) used hu hr (fun n y56 y57 y58 y59 => Z88.l5 n y56 (IntKind.wrap .i64 (y57 - 1)) y58 y59 (R (n + 1))) fun u h1 h2 => ?_)
  rw [qC (by omega) (by omega)]
  exact qFC hN hx m (i - 1) (by omega) (by omega) u h1 h2 (fun n => R (n + 1)) fun u h3 h4 => (hR u h3 h4).shift
def qIZ (x : qA) : Prop := Wd x.2.2.2.2.2.1 /\ x.2.2.2.2.2.1.length <= 4096 /\ x.2.2.2.2.2.2.length <= 3
theorem qBp {N : List qA} {used : List Bool} {root : Nat} (hN : N.length <= 1000) (hx : ∀ x ∈ N, yK N.length x) (hu : used.length = N.length) (hr : rd used root = true) : ∀ (m : Nat) (i : Int), i + m = N.length -> 0 <= i -> ∀ (out : List qA) (to : List Int), to.length = N.length -> (∀ x ∈ out, qIZ x) -> (out.length : Int) <= i -> (root < i -> 1 <= out.length) ->
  ∀ R : Nat -> List qA -> Prop, (∀ t : List qA, t.length <= N.length -> (∀ x ∈ t, qIZ x) -> (root < N.length -> 1 <= t.length) -> Ev (fun n => R n t)) -> Ev (fun n => Z88.l13 n N i out used to (R n))
 | 0, i, hi, h0, out, to, ht, ho, hl, h1, R, hR => by
  refine Ev.succ ?_
  simp only [Z88.l13, Z88.l13.b]
  exact Ev.neg (by simp; omega) (hR out (by omega) ho fun h => h1 (by omega)).shift
 | m + 1, i, hi, h0, out, to, ht, ho, hl, h1, R, hR => by
  have hg := qEv hx (i := i.toNat) (by omega)
  refine Ev.succ ?_
  simp only [Z88.l13, Z88.l13.b]
  refine Ev.pos (by simp; omega) (Ev.grd (by simp; omega) (Ev.ite (fun hn => ?_) fun hn => Ev.grd (by simp; omega) ?_))
  ·rw [qC (by omega) (by omega)]
   refine qBp hN hx hu hr m (i + 1) (by omega) (by omega) out to ht ho (by omega) (fun h => ?_) (fun n => R (n + 1)) fun t a b c => (hR t a b c).shift
   by_cases he : root < i
   ·exact h1 he
   ·have : root = i.toNat := by omega
    rw [<- this, hr] at hn; simp at hn
  ·refine qG4 (R := fun n r214 r215 r216 r217 r218 r219 r220 => Z88.l18 n N i out used to r219 r214 r215 r216 r217 r218 0 r220 _) hg.2.1 (by have := hg.2.2.1; omega) ?_
   refine qDO (by omega) (rd N i.toNat).2.2.2.2.2.2.length 0 (rd N i.toNat).2.2.2.2.2.2 (by omega) (by omega) (by have := hg.2.2.1; omega) (by rw [ht]; exact hg.2.2.2) (fun n y233 y234 y235 y236 y237 y238 y239 y240 y241 y242 y243 y244 => _) fun ks hks => ?_
   rw [qC (x := i + 1) (by omega) (by omega)]
   refine Ev.grd (by simp; omega) (Ev.grd (by simp; omega) ?_)
   exact qBp hN hx hu hr m (i + 1) (by omega) (by omega) _ _ (by simpa using ht) (qCh ho (qAb (y := (_, _, _, _, _, _, ks)) ⟨hg.1, hg.2.1, by have := hg.2.2.1; show ks.length <= 3; omega⟩)) (by simp; omega) (fun _ => by simp) (fun n => R (n + 1)) fun t a b c => (hR t a b c).shift
theorem qLp {N : List qA} {root : Int} {R : Nat -> List qA -> Prop} (hN : N.length <= 1000) (hx : ∀ x ∈ N, yK N.length x) (h0 : 0 <= root) (h1 : root < (N.length : Int))
  (h : ∀ t : List qA, t.length <= N.length -> (∀ x ∈ t, qIZ x) -> 1 <= t.length -> Ev (fun n => R n t)) : Ev (fun n => Z88.c n N root (R n)) := by
 refine Ev.succ ?_
 simp only [Z88.c, Z88.w, Int.toNat_natCast]
 rw [qC (by omega) (by omega)]
 refine Ev.grd (by simp; omega) (Ev.grd (by simp; omega) (Ev.grd (by simp; omega) ?_))
 refine qFC (root := root.toNat) hN hx N.length _ (by omega) (by omega) _ (by simp) (qJx (by simp; omega)) (fun n y63 y64 y65 => Z88.l13 n y63 0 [] y64 y65 (fun y248 => R (n + 1) y248)) fun u hu hr => ?_
 exact qBp hN hx hu hr N.length 0 (by omega) (by omega) [] _ (by simp) (fun x hx => by cases hx) (by simp) (fun h => by omega) (fun n => R (n + 1)) fun t a b c => (h t a b (c (by omega))).shift
theorem qKd {t : List qA} {at' wide want : Int} {R : Nat -> List qA -> Prop} (ht : t.length <= 1000) (hx : ∀ x ∈ t, qIZ x) (h : ∀ t' : List qA, t.length <= t'.length -> t'.length <= t.length + 1 -> (∀ x ∈ t', qIZ x) -> Ev (fun n => R n t')) :
  Ev (fun n => Z80.c n t at' wide want (R n)) := by
 refine Ev.succ ?_
 simp only [Z80.c, Z80.w]
 refine Ev.ite (fun _ => Ev.grd (by simp; omega) (h _ (by simp) (by simp) (qCh hx (qAb ⟨Wd.nil, by simp, by simp⟩))).shift) fun _ => Ev.ite (fun _ => Ev.grd (by simp; omega) (h _ (by simp) (by simp) (qCh hx (qAb ⟨Wd.nil, by simp, by simp⟩))).shift) fun _ => (h t (by omega) (by omega) hx).shift
theorem qHL {d : List qB} {want top wide count op : Int} {flag : Bool} {N z : List qA} {ks w : List Int} {bs : List Int} {p a b c e f : Int} {R : Nat -> List qB -> Int -> Int -> Int -> Int -> List qA -> List Int -> List Int -> List qA -> List Int -> Int -> Int -> Int -> Int -> Int -> Int -> Prop} (hb : xA bs) (hp : Pos bs p)
  (h1 : 1 <= wide) (h2 : wide <= 200) (h : ∀ wide' c' q, 1 <= wide' -> wide' <= 1000 -> Pos bs q -> Ev (fun n => R n d want top wide' count N ks w z bs q a b c' e f)) :
  Ev (fun n => Z82.q34 n d want top wide count op flag N ks w z bs p a b c e f (R n)) := by
 refine Ev.succ ?_
 simp only [Z82.q34, Z82.q34.b, Z82.j0]
 have k9 : Ev (fun n => Z62.c n bs p 9 fun r108 r109 r110 => R (n + 1) d want top wide count N ks w z r109 r110 a b r108 e f) := jX hb hp (by omega) fun r q r1 r2 hq => (h _ _ q h1 (by omega) hq).shift
 have k3 : Ev (fun n => Z62.c n bs p 3 fun r111 r112 r113 => R (n + 1) d want top (IntKind.wrap .i64 (wide * (IntKind.wrap .i64 (1 + r111)))) count N ks w z r112 r113 a b (IntKind.wrap .i64 (1 + r111)) e f) := jX hb hp (by omega) fun r q r1 r2 hq => by
  have e1 : r = 0 \/ r = 1 \/ r = 2 := by omega
  have e2 : IntKind.wrap .i64 (1 + r) = 1 + r := qC (by omega) (by omega)
  have e3 : 1 <= wide * (1 + r) /\ wide * (1 + r) <= 1000 := by rcases e1 with rfl | rfl | rfl <;> omega
  rw [e2, qC (x := wide * (1 + r)) (by omega) (by omega)]
  exact (h _ _ q e3.1 e3.2 hq).shift
 have k0 : Ev (fun n => R (n + 1) d want top wide count N ks w z bs p a b c e f) := (h _ _ p h1 (by omega) hp).shift
 refine Ev.ite (fun _ => jX hb hp (by omega) fun r q r1 r2 hq => ?_) fun _ => Ev.ite (fun _ => by simpa using k9) fun _ => Ev.ite (fun _ => k9) fun _ => Ev.ite (fun _ => k3) fun _ => k0
 rw [qC (by omega) (by omega)]
 exact (h _ _ q (by omega) (by omega) hq).shift
theorem yK.app {N : List qA} {x : qA} (hN : ∀ y ∈ N, yK N.length y) (hx : yK (N.length + 1) x) : ∀ y ∈ N ++ [x], yK (N ++ [x]).length y := by
 rw [List.length_append, List.length_singleton]
 exact qCh (fun y hy => (hN y hy).mono (by omega)) (qAb hx)
theorem yK.of {n : Nat} {op v a b w : Int} {ws ks : List Int} (hw : Wd ws) (hl : ws.length <= 4096) (hk : ks.length <= 3) (h : ∀ k ∈ ks, 0 <= k /\ k < (n : Int)) : yK n (op, v, a, b, w, ws, ks) := ⟨hw, hl, hk, h⟩
theorem qDW {bs : List Int} (hb : xA bs) {d : List qB} (hd : qIs d) {want : Int} {z : List qA} : ∀ (m : Nat) (count top wide : Int) (N : List qA) (p : Int), count = m -> m <= 7 -> N.length + 2 * m <= 14 -> (∀ x ∈ N, yK N.length x) ->
  ((top = -1 /\ N = [] /\ 1 <= m) \/ (0 <= top /\ top < (N.length : Int) /\ 1 <= wide /\ wide <= 200)) -> Pos bs p -> ∀ R : Nat -> List qB -> Int -> Int -> List qA -> List qA -> List Int -> Int -> Prop,
  (∀ top' N' q, N'.length <= 14 -> (∀ x ∈ N', yK N'.length x) -> 0 <= top' -> top' < (N'.length : Int) -> Pos bs q -> Ev (fun n => R n d want top' N' z bs q)) -> Ev (fun n => Z82.l5 n d want top wide count N z bs p (R n))
 | 0, count, top, wide, N, p, hc, hm, hl, hN, hI, hp, R, hR => by
  refine Ev.succ ?_
  simp only [Z82.l5, Z82.l5.b]
  refine Ev.neg (by first | (simp; done) | (simp; omega)) ?_
  rcases hI with ⟨_, _, h⟩ | ⟨h1, h2, _⟩
  ·omega
  ·exact (hR top N p (by omega) hN h1 h2 hp).shift
 | m + 1, count, top, wide, N, p, hc, hm, hl, hN, hI, hp, R, hR => by
  obtain ⟨d1, d2, d3⟩ := hd
  have e : IntKind.wrap .i64 (count - 1) = (m : Int) := by rw [qC] <;> omega
  have e2 : ∀ L : qA, IntKind.wrap .i64 (((N ++ [L]).length : Int) - 1) = (N.length : Int) := fun L => by rw [qC] <;> simp <;> omega
  have e3 : ∀ L x : qA, IntKind.wrap .i64 ((((N ++ [L]) ++ [x]).length : Int) - 1) = (N.length : Int) + 1 := fun L x => by rw [qC] <;> simp <;> omega
  have again : ∀ (tp wd : Int) (N' : List qA) (q : Int), N'.length + 2 * m <= 14 -> (∀ x ∈ N', yK N'.length x) -> 0 <= tp -> tp < (N'.length : Int) -> 1 <= wd -> wd <= 200 -> Pos bs q -> Ev (fun n => Z82.l5 n d want tp wd m N' z bs q (R (n + 1))) := fun tp wd N' q h1 h2 h3 h4 h5 h6 h7 =>
   qDW hb ⟨d1, d2, d3⟩ m m tp wd N' q rfl (by omega) h1 h2 (.inr ⟨h3, h4, h5, h6⟩) h7 (fun n => R (n + 1)) fun t' N'' q' k1 k2 k3 k4 k5 => (hR t' N'' q' k1 k2 k3 k4 k5).shift
  have j : ∀ (wd : Int) (x : qA) (N' : List qA) (tp q : Int), 1 <= wd -> N'.length <= N.length + 1 -> N.length <= N'.length -> (∀ x ∈ N', yK N'.length x) -> yK (N'.length + 1) x -> tp = (N'.length : Int) -> 0 <= top -> top < (N.length : Int) -> Pos bs q ->
    Ev (fun n => if wd > 200 then R (n + 1) d want top N' z bs q else grd (decide (N'.length + [x].length <= 790660046940)) (Z82.l5 n d want tp wd m (N' ++ [x]) z bs q (R (n + 1)))) := fun wd x N' tp q h1 h2 h3 h4 h5 h6 h7 h8 h9 => by
   refine Ev.ite (fun _ => (hR top N' q (by omega) h4 h7 (by omega) h9).shift) fun hw => Ev.grd (by first | (simp; done) | (simp; omega)) (again tp wd _ q (by first | (simp; done) | (simp; omega)) (yK.app h4 h5) (by omega) (by first | (simp; done) | (simp; omega)) h1 (by omega) h9)
  have kd0 : ∀ n : Nat, ∀ k ∈ ([] : List Int), 0 <= k /\ k < (n : Int) := fun n k hk => by cases hk
  refine Ev.succ ?_
  simp only [Z82.l5, Z82.l5.b, Z82.j13, Z82.j14, Z82.j15, Z82.j16, e, e2, e3, decide_eq_true_eq]
  refine Ev.pos (by omega) (jX hb hp (by omega) fun v q v1 v2 hq => Ev.grd (by first | (simp; done) | (simp; omega)) (vR hb hq (by omega) fun o q1 hq1 => ?_))
  have hdv := qEv (P := fun x : qB => 1 <= x.2 /\ x.2 <= 200) d3 (i := v.toNat) (by omega)
  have n0 : (1 : Int) <= 1 := by omega
  refine Ev.ite (fun _ => jX hb hq1 (by omega) fun r q2 r1 r2 hq2 => ?_) fun _ => Ev.ite (fun ht => ?_) fun ht => ?_
  ·
   have er : IntKind.wrap .i64 (1 + r) = 1 + r := qC (by omega) (by omega)
   simp only [er]
   refine qM8 hb hq2 (by omega) (by omega) fun ws q3 hws hwd hq3 => ?_
   have hL : ∀ n : Nat, yK n (2, 0, 0, 0, 1 + r, ws, []) := fun n => yK.of hwd (by omega) (by simp) (kd0 n)
   refine Ev.ite (fun ht => ?_) fun ht => ?_
   ·refine Ev.grd (by first | (simp; done) | (simp; omega)) (again _ _ _ _ (by first | (simp; done) | (simp; omega)) (yK.app hN (hL _)) (by omega) (by first | (simp; done) | (simp; omega)) (by omega) (by omega) hq3)
   ·obtain ⟨h1, h2, h3, h4⟩ : 0 <= top /\ top < (N.length : Int) /\ 1 <= wide /\ wide <= 200 := hI.resolve_left fun h => by omega
    have hNL := yK.app hN (hL (N.length + 1))
    have k1 : ∀ n : Nat, N.length < n -> ∀ k ∈ [top], 0 <= k /\ k < (n : Int) := fun n hn k hk => by rw [List.mem_singleton.1 hk]; omega
    have k2 : ∀ n : Nat, N.length < n -> ∀ k ∈ [(N.length : Int), top], 0 <= k /\ k < (n : Int) := fun n hn k hk => by simp at hk; omega
    have k2' : ∀ n : Nat, N.length < n -> ∀ k ∈ [top, (N.length : Int)], 0 <= k /\ k < (n : Int) := fun n hn k hk => by simp at hk; omega
    have k3 : ∀ n : Nat, N.length < n -> ∀ k ∈ [(N.length : Int), top] ++ [top], 0 <= k /\ k < (n : Int) := fun n hn k hk => by simp at hk; omega
    have k3' : ∀ n : Nat, N.length < n -> ∀ k ∈ [top, (N.length : Int)] ++ [top], 0 <= k /\ k < (n : Int) := fun n hn k hk => by simp at hk; omega
    have hl1 : ∀ L : qA, (N ++ [L]).length = N.length + 1 := fun L => by simp
    refine qAA hb hq3 ⟨by omega, by omega⟩ ⟨by omega, by omega⟩ (by omega) fun op q4 _ _ hq4 => Ev.ite (fun _ => Ev.grd (by first | (simp; done) | (simp; omega)) (vR hb hq4 (by omega) fun o1 q5 hq5 => Ev.ite (fun _ => vR hb hq5 (by omega) fun o2 q6 hq6 => Ev.ite (fun _ => Ev.grd (by simp) ?_) fun _ => ?_) fun _ => vR hb hq5 (by omega) fun o2 q6 hq6 => Ev.ite (fun _ => Ev.grd (by simp) ?_) fun _ => ?_)) fun _ => Ev.ite (fun _ => ?_) fun _ => Ev.ite (fun _ => ?_) fun _ => ?_
    ·exact j _ _ _ _ _ (by simp (disch := omega) only [qC]; omega) (by simp) (by simp) hNL (yK.of Wd.nil (by simp) (by simp) (k3 _ (by first | (simp; done) | (simp; omega)))) (by simp) h1 h2 hq6
    ·exact j _ _ _ _ _ (by simp (disch := omega) only [qC]; omega) (by simp) (by simp) hNL (yK.of Wd.nil (by simp) (by simp) (k2 _ (by first | (simp; done) | (simp; omega)))) (by simp) h1 h2 hq6
    ·exact j _ _ _ _ _ (by simp (disch := omega) only [qC]; omega) (by simp) (by simp) hNL (yK.of Wd.nil (by simp) (by simp) (k3' _ (by first | (simp; done) | (simp; omega)))) (by simp) h1 h2 hq6
    ·exact j _ _ _ _ _ (by simp (disch := omega) only [qC]; omega) (by simp) (by simp) hNL (yK.of Wd.nil (by simp) (by simp) (k2' _ (by first | (simp; done) | (simp; omega)))) (by simp) h1 h2 hq6
    ·rw [qC (x := wide - 1) (by omega) (by omega)]
     refine qAA hb hq4 ⟨by omega, by omega⟩ ⟨by omega, by omega⟩ (by omega) fun A q5 _ hA hq5 => qAA hb hq5 ⟨by omega, by omega⟩ ⟨by omega, by omega⟩ (by omega) fun B q6 _ hB hq6 => ?_
     exact j _ _ _ _ _ (by simp (disch := omega) only [qC]; omega) (by simp) (by simp) hN (yK.of Wd.nil (by simp) (by simp) (k1 _ (by omega))) (by simp) h1 h2 hq6
    ·refine qHL hb hq4 h3 h4 fun wd' c' q5 w1 w2 hq5 => ?_
     simp only [e, e2]; exact j _ _ _ _ _ (by omega) (by simp) (by simp) hN (yK.of Wd.nil (by simp) (by simp) (k1 _ (by omega))) rfl h1 h2 hq5
    ·refine qHL hb hq4 h3 h4 fun wd' c' q5 w1 w2 hq5 => ?_
     simp only [e, e2]; exact j _ _ _ _ _ (by omega) (by simp) (by simp) hN (yK.of Wd.nil (by simp) (by simp) (k1 _ (by omega))) rfl h1 h2 hq5
  ·refine Ev.grd (by first | (simp; done) | (simp; omega)) (again _ _ _ _ (by first | (simp; done) | (simp; omega)) (yK.app hN (yK.of Wd.nil (by simp) (by simp) (kd0 _))) (by omega) (by first | (simp; done) | (simp; omega)) (by omega) (by omega) hq1)
  ·
   have hL : ∀ n : Nat, yK n (1, v, 0, 0, 0, [], []) := fun n => yK.of Wd.nil (by simp) (by simp) (kd0 n)
   obtain ⟨h1, h2, h3, h4⟩ : 0 <= top /\ top < (N.length : Int) /\ 1 <= wide /\ wide <= 200 := hI.resolve_left fun h => by omega
   have hNL := yK.app hN (hL (N.length + 1))
   have k1 : ∀ n : Nat, N.length < n -> ∀ k ∈ [top], 0 <= k /\ k < (n : Int) := fun n hn k hk => by rw [List.mem_singleton.1 hk]; omega
   have k2 : ∀ n : Nat, N.length < n -> ∀ k ∈ [(N.length : Int), top], 0 <= k /\ k < (n : Int) := fun n hn k hk => by simp at hk; omega
   have k2' : ∀ n : Nat, N.length < n -> ∀ k ∈ [top, (N.length : Int)], 0 <= k /\ k < (n : Int) := fun n hn k hk => by simp at hk; omega
   have k3 : ∀ n : Nat, N.length < n -> ∀ k ∈ [(N.length : Int), top] ++ [top], 0 <= k /\ k < (n : Int) := fun n hn k hk => by simp at hk; omega
   have k3' : ∀ n : Nat, N.length < n -> ∀ k ∈ [top, (N.length : Int)] ++ [top], 0 <= k /\ k < (n : Int) := fun n hn k hk => by simp at hk; omega
   refine qAA hb hq1 ⟨by omega, by omega⟩ ⟨by omega, by omega⟩ (by omega) fun op q4 _ _ hq4 => Ev.ite (fun _ => Ev.grd (by first | (simp; done) | (simp; omega)) (vR hb hq4 (by omega) fun o1 q5 hq5 => Ev.ite (fun _ => vR hb hq5 (by omega) fun o2 q6 hq6 => Ev.ite (fun _ => Ev.grd (by simp) ?_) fun _ => ?_) fun _ => vR hb hq5 (by omega) fun o2 q6 hq6 => Ev.ite (fun _ => Ev.grd (by simp) ?_) fun _ => ?_)) fun _ => Ev.ite (fun _ => ?_) fun _ => Ev.ite (fun _ => ?_) fun _ => ?_
   ·exact j _ _ _ _ _ (by simp (disch := omega) only [qC]; omega) (by simp) (by simp) hNL (yK.of Wd.nil (by simp) (by simp) (k3 _ (by first | (simp; done) | (simp; omega)))) (by simp) h1 h2 hq6
   ·exact j _ _ _ _ _ (by simp (disch := omega) only [qC]; omega) (by simp) (by simp) hNL (yK.of Wd.nil (by simp) (by simp) (k2 _ (by first | (simp; done) | (simp; omega)))) (by simp) h1 h2 hq6
   ·exact j _ _ _ _ _ (by simp (disch := omega) only [qC]; omega) (by simp) (by simp) hNL (yK.of Wd.nil (by simp) (by simp) (k3' _ (by first | (simp; done) | (simp; omega)))) (by simp) h1 h2 hq6
   ·exact j _ _ _ _ _ (by simp (disch := omega) only [qC]; omega) (by simp) (by simp) hNL (yK.of Wd.nil (by simp) (by simp) (k2' _ (by first | (simp; done) | (simp; omega)))) (by simp) h1 h2 hq6
   ·rw [qC (x := wide - 1) (by omega) (by omega)]
    refine qAA hb hq4 ⟨by omega, by omega⟩ ⟨by omega, by omega⟩ (by omega) fun A q5 _ hA hq5 => qAA hb hq5 ⟨by omega, by omega⟩ ⟨by omega, by omega⟩ (by omega) fun B q6 _ hB hq6 => ?_
    exact j _ _ _ _ _ (by simp (disch := omega) only [qC]; omega) (by simp) (by simp) hN (yK.of Wd.nil (by simp) (by simp) (k1 _ (by omega))) (by simp) h1 h2 hq6
   ·refine qHL hb hq4 h3 h4 fun wd' c' q5 w1 w2 hq5 => ?_
    simp only [e, e2]; exact j _ _ _ _ _ (by omega) (by simp) (by simp) hN (yK.of Wd.nil (by simp) (by simp) (k1 _ (by omega))) rfl h1 h2 hq5
   ·refine qHL hb hq4 h3 h4 fun wd' c' q5 w1 w2 hq5 => ?_
    simp only [e, e2]; exact j _ _ _ _ _ (by omega) (by simp) (by simp) hN (yK.of Wd.nil (by simp) (by simp) (k1 _ (by omega))) rfl h1 h2 hq5
theorem qJ7 {bs : List Int} {p want : Int} {d : List qB} {R : Nat -> List qA -> List Int -> Int -> Prop} (hb : xA bs) (hp : Pos bs p) (hd : qIs d) (h : ∀ t q, qNe t -> Pos bs q -> Ev (fun n => R n t bs q)) :
  Ev (fun n => Z82.c n bs p d want (R n)) := by
 have hl := hb.2
 obtain ⟨d1, d2, d3⟩ := hd
 refine Ev.succ ?_
 simp only [Z82.c, Z82.w]
 rw [qFe (by omega), qC (x := (bs.length : Int) / 12) (by omega) (by omega), qC (x := 2 + (bs.length : Int) / 12) (by omega) (by omega)]
 refine jX hb hp (by split <;> omega) fun r q h1 h2 hq => ?_
 have hr : r <= 6 := by split at h2 <;> omega
 rw [qC (x := 1 + r) (by omega) (by omega)]
 refine qDW hb ⟨d1, d2, d3⟩ (1 + r).toNat (1 + r) (-1) 0 [] q (by omega) (by omega) (by first | (simp; done) | (simp; omega)) (fun x hx => by cases hx) (.inl ⟨rfl, rfl, by omega⟩) hq (fun n y1565 y1566 y1567 y1568 y1569 y1570 y1571 => Z88.c n y1568 y1567 _) fun top N q1 n1 n2 n3 n4 hq1 => ?_
 refine qLp (by omega) n2 n3 n4 fun t t1 t2 t3 => Ev.ite (fun _ => ?_) fun _ => (h t q1 ⟨t3, by omega, t2⟩ hq1).shift
 rw [vP (d := d) (t := t) (by omega) (fun x hx => ⟨(t2 x hx).1, by have := (t2 x hx).2.2; omega⟩)]
 exact qKd (by omega) t2 fun t' f1 f2 f3 => (h t' q1 ⟨by omega, by omega, f3⟩ hq1).shift
def qK1 (x : qA) : Prop := Wd x.2.2.2.2.2.1 /\ x.2.2.2.2.2.1.length <= 4096 /\ x.2.2.2.2.2.2.length <= 4
def DT (t : List qA) : Prop := t.length <= 402 /\ ∀ x ∈ t, qK1 x
theorem qIZ.four {x : qA} (h : qIZ x) : qK1 x := ⟨h.1, h.2.1, by have := h.2.2; omega⟩
theorem qNe.dt {t : List qA} (h : qNe t) : DT t := ⟨by have := h.2.1; omega, fun x hx => qIZ.four (h.2.2 x hx)⟩
theorem DT.wd {t : List qA} (h : DT t) : ∀ x ∈ t, Wd x.2.2.2.2.2.1 /\ x.2.2.2.2.2.2.length <= 1099511627776 := fun x hx => ⟨(h.2 x hx).1, by have := (h.2 x hx).2.2; omega⟩
theorem qK1.of {op v a b w : Int} {ws ks : List Int} (hw : Wd ws) (hl : ws.length <= 4096) (hk : ks.length <= 4) : qK1 (op, v, a, b, w, ws, ks) := ⟨hw, hl, hk⟩
def DL (l : qE) : Prop := DT l.2.2.1 /\ DT l.2.2.2
theorem DL.of {i : Int} {e : Bool} {s t : List qA} (hs : DT s) (ht : DT t) : DL (i, e, s, t) := ⟨hs, ht⟩
theorem qIJ {bs : List Int} {p id : Int} {d : List qB} {R : Nat -> Int -> Bool -> List qA -> List qA -> List Int -> Int -> Prop} (hb : xA bs) (hp : Pos bs p) (hd : qIs d)
  (h : ∀ e s t q, DT s -> DT t -> Pos bs q -> Ev (fun n => R n id e s t bs q)) : Ev (fun n => Z95.c n bs p d id (R n)) := by
 have hd1 := hd.1; have hd2 := hd.2.1
 have g : ∀ (e : Bool) (s : List qA) (w q : Int), DT s -> Pos bs q -> Ev (fun n => Z82.c n bs q d w (fun r50 r51 r52 => R (n + 1) id e s r50 r51 r52)) := fun e s w q hs hq => qJ7 hb hq hd fun t q' ht hq' => (h e s t q' hs ht.dt hq').shift
 refine Ev.succ ?_
 simp only [Z95.c, Z95.w, and_self]
 refine qJ7 hb hp hd fun s q hs hq => ?_
 have hw := fun R => vP (d := d) (t := s) (by omega) (hs.dt.wd) R
 have hs' : ∀ y ∈ s, qIZ y := hs.2.2
 have fd : ∀ t : List qA, t.length <= s.length + 1 -> (∀ x ∈ t, qIZ x) -> DT t := fun t h1 h2 => ⟨by have := hs.2.1; omega, fun x hx => qIZ.four (h2 x hx)⟩
 rw [hw]
 refine vR hb hq (by omega) fun o q1 hq1 => Ev.ite (fun _ => jX hb hq1 (by omega) fun v q2 v1 v2 hq2 => Ev.grd (by simp; omega) (Ev.ite (fun _ => ?_) fun _ => ?_)) fun _ => Ev.ite (fun _ => ?_) fun _ => ?_
 ·have hf : ∀ t : List qA, t.length <= 2 -> (∀ x ∈ t, qIZ x) -> DT t := fun t h1 h2 => ⟨by omega, fun x hx => qIZ.four (h2 x hx)⟩
  refine qKd (by simp) (qAb ⟨Wd.nil, by simp, by simp⟩) fun t' f1 f2 f3 => ?_
  exact vR hb hq2 (by omega) fun o q3 hq3 => g _ _ _ _ (hf t' (by simpa using f2) f3) hq3
 ·exact vR hb hq2 (by omega) fun o q3 hq3 => g _ _ _ _ ⟨by simp, qAb (qK1.of Wd.nil (by simp) (by simp))⟩ hq3
 ·refine qKd (by have := hs.2.1; omega) hs' fun t' f1 f2 f3 => ?_
  exact vR hb hq1 (by omega) fun o q3 hq3 => g _ _ _ _ (fd t' f2 f3) hq3
 ·exact vR hb hq1 (by omega) fun o q3 hq3 => g _ _ _ _ hs.dt hq3
theorem qMD {bs : List Int} {p per most : Int} {R : Nat -> Int -> List Int -> Int -> Prop} (hb : xA bs) (hp : Pos bs p) (h1 : 1 <= per) (h2 : 1 <= most) (h3 : most <= 1000) (h : ∀ r q, 1 <= r -> r <= most -> Pos bs q -> Ev (fun n => R n r bs q)) :
  Ev (fun n => Z69.c n bs p per most (R n)) := by
 have hl := hb.2
 refine Ev.succ ?_
 simp only [Z69.c, Z69.w]
 have e0 : 0 <= Int.tdiv (bs.length : Int) per /\ Int.tdiv (bs.length : Int) per <= (bs.length : Int) := by
  rw [qFe (by omega)]; exact ⟨Int.ediv_nonneg (by omega) (by omega), Int.ediv_le_self _ (by omega)⟩
 generalize Int.tdiv (bs.length : Int) per = k at e0 ⊢
 rw [qC (x := k) (by omega) (by omega), qC (x := 1 + k) (by omega) (by omega)]
 refine Ev.grd (by simp; omega) (Ev.ite (fun _ => jX hb hp h2 fun r q r1 r2 hq => ?_) fun hk => jX hb hp (by omega) fun r q r1 r2 hq => ?_)
 ·rw [qC (by omega) (by omega)]; exact (h _ _ (by omega) (by omega) hq).shift
 ·simp only [decide_eq_true_eq] at hk
  rw [qC (by omega) (by omega)]; exact (h _ _ (by omega) (by omega) hq).shift
theorem qCv {m : Nat} : ∀ {ys : List qF} {b : Int}, 0 <= b -> jI m ys b = true -> ∀ y ∈ ys, 0 <= y.1 /\ y.1 <= (m : Int)
 | [], b, h0, h, y, hy => by cases hy
 | z :: ys, b, h0, h, y, hy => by
  rw [jI, Bool.and_eq_true, decide_eq_true_eq] at h
  rcases List.mem_cons.1 hy with rfl | hy
  ·omega
  ·exact qCv (by omega) h.2 y hy
theorem qDv {d : List qB} {s : List qF} {next : Int} (h : jQ d s next = true) : 1 <= s.length /\ s.length <= 20 /\ ∀ y ∈ s, 0 <= y.1 /\ y.1 <= (d.length : Int) := by
 simp only [jQ, Bool.and_eq_true, decide_eq_true_eq] at h
 exact ⟨h.1.1.1.1.1.1.1.2.1, h.1.1.1.1.1.1.1.2.2, qCv (Int.le_refl _) h.1.1.1.1.2⟩
def qCK (d : List qB) (s : List qF) (next : Int) : (List qB × List qF × Int) × Int :=
 if jQ d s next = true then (if s.length = 1 then ((d, s, next), 8) else ((d.take (rd s (s.length - 1)).1.toNat, s.take (s.length - 1), next), 0)) else (([], [], 0), 1)
theorem qJC {d : List qB} {s : List qF} {next : Int} (hd : d.length <= 1048576) (hs : s.length + qV s <= 1048576) (hg : ∀ y ∈ s, qI2 y.2) (R : Nat -> List qB -> List qF -> Int -> Int -> Prop) :
  Ev (fun n => Z41.c n d s next (R n)) ↔ Ev (fun n => R n (qCK d s next).1.1 (qCK d s next).1.2.1 (qCK d s next).1.2.2 (qCK d s next).2) := by
 have ha := wW (s := s)
 have ok := fun R => kG (d := d) (s := s) (next := next) (by omega) (by omega) (by omega) hg R
 have cl := fun R => wO (d := d) (s := s) (next := next) hd hs R
 refine Ev.suc.trans ?_
 simp only [Z41.c, Z41.w, ok, Ev.iteI, Bool.not_eq_true', qCK]
 by_cases h : jQ d s next = true
 ·obtain ⟨h1, h2, h3⟩ := qDv h
  have hl := h3 (rd s (s.length - 1)) (by rw [rd, List.getD_eq_getElem?_getD, List.getElem?_eq_getElem (by omega)]; exact List.getElem_mem _)
  have ew : IntKind.wrap .i64 ((s.length : Int) - 1) = ((s.length - 1 : Nat) : Int) := by rw [qC (by omega) (by omega)]; omega
  rw [if_neg (by rw [h]; decide), if_pos h]
  simp (disch := omega) only [cl, ew, Int.toNat_natCast, qD, qA4, Ev.iteI, decide_eq_true_eq]
  by_cases h4 : s.length = 1
  ·rw [if_pos (by omega), if_pos h4]; exact Ev.s4 R _ _ _ _
  ·rw [if_neg (by omega), if_neg h4]; exact Ev.s4 R _ _ _ _
 ·rw [if_pos (by simpa using h), if_neg h]; exact Ev.s4 R _ _ _ _
structure qDs (N : List qU) (O : List Int) : Prop where
 n : N.length <= 2000
 o : O.length <= 101
 mem : ∀ x ∈ O, 0 <= x /\ x < (N.length : Int)
 kid : ∀ i, i < N.length -> (rd N i).2.length <= N.length /\ ∀ k ∈ (rd N i).2, (i : Int) < k /\ k < (N.length : Int)
def upT (N : List qU) (O : List Int) (t : List UInt8) : List qU :=
 if 0 < O.length then List.set (N ++ [(t, [])]) (rd O (O.length - 1)).toNat ((rd (N ++ [(t, [])]) (rd O (O.length - 1)).toNat).1, (rd (N ++ [(t, [])]) (rd O (O.length - 1)).toNat).2 ++ [(N.length : Int)]) else N ++ [(t, [])]
def jC (N : List qU) (O : List Int) (t : List UInt8) : Int × List qU :=
 if O.length = 0 /\ 0 < N.length then (4, N) else if 100 < O.length then (5, N) else if N.length = 2000 then (6, N) else (0, upT N O t)
theorem wZ {O : List Int} {i : Nat} (hi : i < O.length) : rd O i ∈ O := by
 rw [rd, List.getD_eq_getElem?_getD, List.getElem?_eq_getElem hi]
 exact List.getElem_mem hi
theorem qCI {N M : List qU} {i : Nat} (hi : i < N.length) : rd (N ++ M) i = rd N i := by
 rw [rd, rd, List.getD_eq_getElem?_getD, List.getD_eq_getElem?_getD, List.getElem?_append_left hi]
theorem qBn {N : List qU} {i j : Nat} {x : qU} (h : i ≠ j) : rd (List.set N j x) i = rd N i := by
 rw [rd, rd, List.getD_eq_getElem?_getD, List.getD_eq_getElem?_getD, List.getElem?_set_ne (Ne.symm h)]
theorem qBo {N : List qU} {i : Nat} {x : qU} (h : i < N.length) : rd (List.set N i x) i = x := by
 rw [rd, List.getD_eq_getElem?_getD, List.getElem?_set_self h]; rfl
theorem qIh {N : List qU} {O : List Int} (h : qDs N O) (t : List UInt8) (R : Nat -> Int -> List qU -> List Int -> Prop) :
  Ev (fun n => Z76.c n N O t (R n)) ↔ Ev (fun n => R n (jC N O t).1 (jC N O t).2 O) := by
 have hn := h.n
 have ho := h.o
 have j0 : ∀ R : Nat -> Int -> List qU -> List Int -> Prop, Ev (fun n => Z76.j0 (R n) N O t) ↔ if 100 < O.length then Ev (fun n => R n 5 N O) else if N.length = 2000 then Ev (fun n => R n 6 N O) else Ev (fun n => R n 0 (upT N O t) O) := fun R => by
  simp only [Z76.j0, and_self, Ev.iteI, decide_eq_true_eq]
  have g0 : N.length + ([(t, ([] : List Int))] : List qU).length <= 1716310833601 := by simp; omega
  simp only [qT g0, Ev.iteI, decide_eq_true_eq]
  by_cases h1 : 100 < O.length
  ·rw [if_pos (by omega), if_pos h1]
  ·rw [if_neg (by omega), if_neg h1]
   by_cases h2 : N.length = 2000
   ·rw [if_pos (by omega), if_pos h2]
   ·rw [if_neg (by omega), if_neg h2]
    by_cases h3 : 0 < O.length
    ·rw [if_pos (by omega)]
     have e1 : IntKind.wrap .i64 ((O.length : Int) - 1) = ((O.length - 1 : Nat) : Int) := by rw [qC (by omega) (by omega)]; omega
     have hm := h.mem _ (wZ (O := O) (i := O.length - 1) (by omega))
     simp only [e1, Int.toNat_natCast]
     have hl : (N ++ [(t, ([] : List Int))]).length = N.length + 1 := by simp
     have g1 : (0 : Int) <= ((O.length - 1 : Nat) : Int) /\ ((O.length - 1 : Nat) : Int) < (O.length : Int) := ⟨by omega, by omega⟩
     have g2 : (0 : Int) <= rd O (O.length - 1) /\ rd O (O.length - 1) < ((N ++ [(t, ([] : List Int))]).length : Int) := ⟨hm.1, by rw [hl]; omega⟩
     have hu : (rd O (O.length - 1)).toNat < N.length := by omega
     have e2 : rd (N ++ [(t, ([] : List Int))]) (rd O (O.length - 1)).toNat = rd N (rd O (O.length - 1)).toNat := qCI hu
     have hk := (h.kid _ hu).1
     have g3 : ((rd (N ++ [(t, ([] : List Int))]) (rd O (O.length - 1)).toNat).2).length + ([(N.length : Int)] : List Int).length <= 7818749353073 := by rw [e2]; simp; omega
     simp only [qD g1, qD g2, qT g3, decide_true]
     simp only [grd]
     unfold upT
     rw [if_pos h3]
    ·rw [if_neg (by omega)]
     unfold upT
     rw [if_neg h3]
 refine Ev.suc.trans ?_
 simp only [Z76.c, Z76.w, Ev.iteI, decide_eq_true_eq]
 have := j0 (fun n => R (n + 1))
 rw [Ev.s3 R, Ev.s3 R, Ev.s3 R] at this
 rw [this]
 by_cases hA : O.length = 0 /\ 0 < N.length
 ·have e : jC N O t = (4, N) := by unfold jC; rw [if_pos hA]
  rw [if_pos (by omega), if_pos (by omega), e]; exact Ev.s3 R _ _ _
 ·have e : jC N O t = if 100 < O.length then (5, N) else if N.length = 2000 then (6, N) else (0, upT N O t) := by unfold jC; rw [if_neg hA]
  have mid : (if 100 < O.length then Ev (fun n => R n 5 N O) else if N.length = 2000 then Ev (fun n => R n 6 N O) else Ev (fun n => R n 0 (upT N O t) O)) ↔ Ev (fun n => R n (jC N O t).1 (jC N O t).2 O) := by
   rw [e]
   split
   ·rfl
   ·split <;> rfl
  by_cases h0 : O.length = 0
  ·rw [if_pos (by omega), if_neg (by omega)]; exact mid
  ·rw [if_neg (by omega)]; exact mid
theorem wF {N : List qU} {O : List Int} (h : qDs N O) (t : List UInt8) : qDs (jC N O t).2 O /\ N.length <= (jC N O t).2.length /\ ((jC N O t).1 = 0 -> (jC N O t).2.length = N.length + 1 /\ O.length <= 100) := by
 unfold jC
 split
 ·exact ⟨h, Nat.le_refl _, fun h => by cases h⟩
 ·split
  ·exact ⟨h, Nat.le_refl _, fun h => by cases h⟩
  ·split
   ·exact ⟨h, Nat.le_refl _, fun h => by cases h⟩
   ·have hn := h.n
    have hl : (upT N O t).length = N.length + 1 := by unfold upT; split <;> simp
    refine ⟨⟨by rw [show ((0 : Int), upT N O t).2 = upT N O t from rfl, hl]; omega, h.o, fun x hx => ?_, fun i hi => ?_⟩, by show N.length <= (upT N O t).length; omega, fun _ => ⟨hl, by omega⟩⟩
    ·have := h.mem x hx
     exact ⟨this.1, by show x < ((upT N O t).length : Int); rw [hl]; omega⟩
    ·have hi' : i < N.length + 1 := by rw [<- hl]; exact hi
     show (rd (upT N O t) i).2.length <= (upT N O t).length /\ ∀ k ∈ (rd (upT N O t) i).2, (i : Int) < k /\ k < ((upT N O t).length : Int)
     rw [hl]
     have base : (rd (N ++ [(t, ([] : List Int))]) i).2.length <= N.length /\ ∀ k ∈ (rd (N ++ [(t, ([] : List Int))]) i).2, (i : Int) < k /\ k < (N.length : Int) := by
      by_cases hiN : i < N.length
      ·have : rd (N ++ [(t, ([] : List Int))]) i = rd N i := qCI hiN
       rw [this]; exact h.kid i hiN
      ·obtain rfl : i = N.length := by omega
       have : rd (N ++ [(t, ([] : List Int))]) N.length = (t, []) := by
        simp [rd, List.getD_eq_getElem?_getD]
       rw [this]; exact ⟨Nat.zero_le _, fun k hk => by cases hk⟩
     unfold upT
     split
     ·rename_i h3
      have hm := h.mem _ (wZ (O := O) (i := O.length - 1) (by omega))
      by_cases hiu : i = (rd O (O.length - 1)).toNat
      ·subst hiu
       have e : rd (List.set (N ++ [(t, ([] : List Int))]) (rd O (O.length - 1)).toNat ((rd (N ++ [(t, [])]) (rd O (O.length - 1)).toNat).1, (rd (N ++ [(t, [])]) (rd O (O.length - 1)).toNat).2 ++ [(N.length : Int)])) (rd O (O.length - 1)).toNat = ((rd (N ++ [(t, [])]) (rd O (O.length - 1)).toNat).1, (rd (N ++ [(t, [])]) (rd O (O.length - 1)).toNat).2 ++ [(N.length : Int)]) := qBo (by simp; omega)
       rw [e]
       refine ⟨by simp; exact base.1, fun k hk => ?_⟩
       rcases List.mem_append.1 hk with hk | hk
       ·have := base.2 k hk; omega
       ·rw [List.mem_singleton] at hk; subst hk; omega
      ·have e : rd (List.set (N ++ [(t, ([] : List Int))]) (rd O (O.length - 1)).toNat ((rd (N ++ [(t, [])]) (rd O (O.length - 1)).toNat).1, (rd (N ++ [(t, [])]) (rd O (O.length - 1)).toNat).2 ++ [(N.length : Int)])) i = rd (N ++ [(t, ([] : List Int))]) i := qBn hiu
       rw [e]
       exact ⟨by omega, fun k hk => by have := base.2 k hk; omega⟩
     ·exact ⟨by omega, fun k hk => by have := base.2 k hk; omega⟩
def zW (c : UInt8) : Bool := decide (33 <= c.toNat /\ c.toNat <= 126 /\ c.toNat ≠ 40 /\ c.toNat ≠ 41 /\ c.toNat ≠ 59)
def qI0 (c : UInt8) : Bool := decide (c.toNat ≠ 10 /\ 32 <= c.toNat /\ c.toNat <= 126)
def run (p : UInt8 -> Bool) (s : List UInt8) (i : Nat) : Nat := ((s.drop i).takeWhile p).length
theorem qJr {p : UInt8 -> Bool} {s : List UInt8} {i : Nat} (h : s.length <= i) : run p s i = 0 := by
 unfold run; rw [List.drop_eq_nil_of_le h]; rfl
theorem qEJ {s : List UInt8} {i : Nat} (h : i < s.length) : s.drop i = List.getD s i 0 :: s.drop (i + 1) := by
 rw [List.drop_eq_getElem_cons h, List.getD_eq_getElem?_getD, List.getElem?_eq_getElem h]; rfl
theorem qGL {p : UInt8 -> Bool} {s : List UInt8} {i : Nat} (h : i < s.length) (hp : p (List.getD s i 0) = true) : run p s i = run p s (i + 1) + 1 := by
 unfold run; rw [qEJ h, List.takeWhile_cons, if_pos hp, List.length_cons]
theorem qL7 {p : UInt8 -> Bool} {s : List UInt8} {i : Nat} (h : i < s.length) (hp : p (List.getD s i 0) = false) : run p s i = 0 := by
 unfold run; rw [qEJ h, List.takeWhile_cons, if_neg (by rw [hp]; decide)]; rfl
theorem qJq {p : UInt8 -> Bool} {s : List UInt8} {i : Nat} (h : i <= s.length) : i + run p s i <= s.length := by
 have : run p s i <= (s.drop i).length := by
  unfold run
  exact (List.takeWhile_sublist p).length_le
 rw [List.length_drop] at this
 omega
theorem qLX (c : UInt8) (R : Nat -> Bool -> Prop) : Ev (fun n => Z74.c n [c] (R n)) ↔ Ev (fun n => R n (zW c)) := by
 have lp0 : ∀ (Kx : Nat -> List UInt8 -> Prop) (Kr : Nat -> Bool -> Prop), Ev (fun n => Z74.l2 n [c] 1 (Kx n) (Kr n)) ↔ Ev (fun n => Kx n [c]) := fun Kx Kr => by
  refine Ev.suc.trans ?_
  simp only [Z74.l2, Z74.l2.b]
  rw [Ev.iteI, if_neg (by simp), Ev.s1 Kx]
 have lp : ∀ (Kx : Nat -> List UInt8 -> Prop) (Kr : Nat -> Bool -> Prop), Ev (fun n => Z74.l2 n [c] 0 (Kx n) (Kr n)) ↔ if zW c = true then Ev (fun n => Kx n [c]) else Ev (fun n => Kr n false) := fun Kx Kr => by
  refine Ev.suc.trans ?_
  have g : (0 : Int) <= 0 /\ (0 : Int) < (([c] : List UInt8).length : Int) := ⟨by omega, by simp⟩
  have e1 : IntKind.wrap .i64 ((0 : Int) + 1) = 1 := by decide
  have ec : List.getD [c] (Int.toNat 0) 0 = c := rfl
  simp only [Z74.l2, Z74.l2.b, qD g, e1, ec, Ev.iteI, decide_eq_true_eq, decide_eq_false_iff_not]
  have l0 := lp0 (fun n => Kx (n + 1)) (fun n => Kr (n + 1))
  rw [l0, Ev.s1 Kx, Ev.s1 Kr, if_pos (by simp)]
  unfold zW
  by_cases h1 : c.toNat < 33
  ·rw [if_neg (by omega), if_neg (by rw [decide_eq_true_eq]; omega)]
  ·rw [if_pos (by omega)]
   by_cases h2 : 126 < c.toNat
   ·rw [if_neg (by omega), if_neg (by rw [decide_eq_true_eq]; omega)]
   ·rw [if_pos (by omega)]
    by_cases h3 : c.toNat = 40
    ·rw [if_neg (by omega), if_neg (by rw [decide_eq_true_eq]; omega)]
    ·rw [if_pos (by omega)]
     by_cases h4 : c.toNat = 41
     ·rw [if_neg (by omega), if_neg (by rw [decide_eq_true_eq]; omega)]
     ·rw [if_pos (by omega)]
      by_cases h5 : c.toNat = 59
      ·rw [if_pos (by omega), if_neg (by rw [decide_eq_true_eq]; omega)]
      ·rw [if_neg (by omega), if_pos (by rw [decide_eq_true_eq]; omega)]
 refine Ev.suc.trans ?_
 simp only [Z74.c, Z74.w]
 rw [lp (fun n y => R (n + 1) (decide ((y.length : Int) > 0))) (fun n y => R (n + 1) y), Ev.s1 R, Ev.s1 R]
 split
 ·rename_i h; rw [h]; rfl
 ·rename_i h; rw [show zW c = false from by simpa using h]
theorem qMn {s : List UInt8} (hl : s.length <= 20000) : ∀ (m i : Nat), i + m = s.length -> ∀ Kx : Nat -> Int -> Prop,
  (Ev (fun n => Z75.l1 n s i (Kx n)) ↔ Ev (fun n => Kx n ((i + run zW s i : Nat) : Int)))
 | 0, i, hi, Kx => by
  refine Ev.suc.trans ?_
  simp only [Z75.l1, Z75.l1.b]
  rw [Ev.iteI, if_neg (by simp; omega), qJr (by omega), Ev.s1 Kx]; rfl
 | m + 1, i, hi, Kx => by
  have hlt : i < s.length := by omega
  have ih := qMn hl m (i + 1) (by omega) (fun n => Kx (n + 1))
  have e1 : IntKind.wrap .i64 ((i : Int) + 1) = ((i + 1 : Nat) : Int) := by rw [qC (by omega) (by omega)]; omega
  have g : ((decide ((0 : Int) <= (i : Int)) && (decide ((0 : Int) <= ((i + 1 : Nat) : Int)) && decide (((i + 1 : Nat) : Int) <= (s.length : Int)))) && decide ((i : Int) <= ((i + 1 : Nat) : Int))) = true := by simp; omega
  have es : List.drop i (List.take (i + 1) s) = [List.getD s i 0] := by
   rw [List.drop_take, Nat.add_sub_cancel_left, qEJ hlt]; rfl
  refine Ev.suc.trans ?_
  simp only [Z75.l1, Z75.l1.b, e1, Int.toNat_natCast, es, g, grd]
  rw [Ev.iteI, if_pos (by simp; omega), qLX]
  simp only [Ev.iteI]
  rw [ih, Ev.s1 Kx, Ev.s1 Kx]
  by_cases h : zW (List.getD s i 0) = true
  ·rw [if_pos h, qGL hlt h, show i + (run zW s (i + 1) + 1) = i + 1 + run zW s (i + 1) from by omega]
  ·rw [if_neg h, qL7 hlt (by simpa using h)]; rfl
theorem qNG {s : List UInt8} (hl : s.length <= 20000) {i : Nat} (hi : i <= s.length) (R : Nat -> Int -> Prop) : Ev (fun n => Z75.c n s i (R n)) ↔ Ev (fun n => R n ((i + run zW s i : Nat) : Int)) := by
 refine Ev.suc.trans ?_
 simp only [Z75.c, Z75.w]
 exact (qMn hl (s.length - i) i (by omega) (fun n => R (n + 1))).trans (Ev.s1 R _)
theorem qL9 {s : List UInt8} (hl : s.length <= 20000) {a b : Int} {z N : List qU} {O : List Int} : ∀ (m i : Nat), i + m = s.length -> ∀ Kx : Nat -> List UInt8 -> Int -> Int -> Int -> List qU -> List qU -> List Int -> Prop,
  (Ev (fun n => Z45.l15 n s a b z N O i (Kx n)) ↔ Ev (fun n => Kx n s a b ((i + run qI0 s i : Nat) : Int) z N O))
 | 0, i, hi, Kx => by
  refine Ev.suc.trans ?_
  simp only [Z45.l15, Z45.l15.b]
  rw [Ev.iteI, if_neg (by simp; omega), qJr (by omega), Ev.s7 Kx]; rfl
 | m + 1, i, hi, Kx => by
  have hlt : i < s.length := by omega
  have ih := qL9 hl (a := a) (b := b) (z := z) (N := N) (O := O) m (i + 1) (by omega) (fun n => Kx (n + 1))
  have e1 : IntKind.wrap .i64 ((i : Int) + 1) = ((i + 1 : Nat) : Int) := by rw [qC (by omega) (by omega)]; omega
  have g : (0 : Int) <= (i : Int) /\ (i : Int) < (s.length : Int) := ⟨by omega, by omega⟩
  refine Ev.suc.trans ?_
  simp only [Z45.l15, Z45.l15.b, e1, Int.toNat_natCast, qD g, Ev.iteI, decide_eq_true_eq, Bool.not_eq_true', decide_eq_false_iff_not]
  rw [ih, Ev.s7 Kx, Ev.s7 Kx, if_pos (by omega)]
  by_cases h : qI0 (List.getD s i 0) = true
  ·have h' := h
   unfold qI0 at h'
   rw [decide_eq_true_eq] at h'
   rw [if_pos (by omega), if_pos (by omega), if_pos (by omega), qGL hlt h, show i + (run qI0 s (i + 1) + 1) = i + 1 + run qI0 s (i + 1) from by omega]
  ·have h' := h
   unfold qI0 at h'
   rw [decide_eq_true_eq] at h'
   rw [qL7 hlt (by simpa using h)]
   split
   ·split
    ·rw [if_neg (by omega)]; rfl
    ·rfl
   ·rfl
theorem qNx {s : List UInt8} (hl : s.length <= 20000) {i : Nat} (hi : i < s.length) {c : Nat} {b : Bool} {z N : List qU} {O : List Int} (h : qDs N O)
  (K0 : Nat -> List UInt8 -> Int -> Int -> Int -> List qU -> List qU -> List Int -> Prop) (K1 : Nat -> List UInt8 -> Int -> Int -> Int -> List qU -> List qU -> List Int -> Nat -> Nat -> Prop) (K2 : Nat -> List UInt8 -> Int -> Int -> Int -> List Int -> List qU -> List qU -> Prop) :
  Ev (fun n => Z45.q12 n s i c 0 ((i + 1 : Nat) : Int) b z N O (K0 n) (K1 n) (K2 n)) ↔
   if b = true then Ev (fun n => K0 n s i 0 ((i + 1 : Nat) : Int) z N O) else if c < 32 \/ 126 < c then Ev (fun n => K0 n s i 2 ((i + 1 : Nat) : Int) z N O)
   else if c = 59 then Ev (fun n => K0 n s i 0 ((i + 1 + run qI0 s (i + 1) : Nat) : Int) z N O)
   else if c = 41 then (if O.length = 0 then Ev (fun n => K0 n s i 3 ((i + 1 : Nat) : Int) z N O) else Ev (fun n => K1 n s i 0 ((i + 1 : Nat) : Int) z N O 0 (O.length - 1)))
   else if c = 40 then Ev (fun n => K2 n s i (jC N O []).1 ((i + 1 : Nat) : Int) (O ++ [((jC N O []).2.length : Int) - 1]) z (jC N O []).2)
   else Ev (fun n => K0 n s i (jC N O ((s.drop i).take (run zW s i))).1 ((i + run zW s i : Nat) : Int) z (jC N O ((s.drop i).take (run zW s i))).2 O) := by
 have ho := h.o
 have hrun := qJq (p := zW) (s := s) (i := i) (by omega)
 have j0 : ∀ v : Bool, Ev (fun n => Z45.j0 (K0 (n + 1)) (K1 (n + 1)) (K2 (n + 1)) (Z45.l15 n) n s i c 0 ((i + 1 : Nat) : Int) z N O v) ↔ if v = true then Ev (fun n => K0 n s i 2 ((i + 1 : Nat) : Int) z N O)
   else if c = 59 then Ev (fun n => K0 n s i 0 ((i + 1 + run qI0 s (i + 1) : Nat) : Int) z N O)
   else if c = 41 then (if O.length = 0 then Ev (fun n => K0 n s i 3 ((i + 1 : Nat) : Int) z N O) else Ev (fun n => K1 n s i 0 ((i + 1 : Nat) : Int) z N O 0 (O.length - 1)))
   else if c = 40 then Ev (fun n => K2 n s i (jC N O []).1 ((i + 1 : Nat) : Int) (O ++ [((jC N O []).2.length : Int) - 1]) z (jC N O []).2)
   else Ev (fun n => K0 n s i (jC N O ((s.drop i).take (run zW s i))).1 ((i + run zW s i : Nat) : Int) z (jC N O ((s.drop i).take (run zW s i))).2 O) := fun v => by
  simp only [Z45.j0, Ev.iteI, decide_eq_true_eq, and_self]
  by_cases hv : v = true
  ·rw [if_pos hv, if_pos hv]; exact Ev.s7 K0 _ _ _ _ _ _ _
  ·rw [if_neg hv, if_neg hv]
   by_cases h59 : c = 59
   ·rw [if_pos (by omega), if_pos h59]
    exact (qL9 hl (s.length - (i + 1)) (i + 1) (by omega) (fun n => K0 (n + 1))).trans (Ev.s7 K0 _ _ _ _ _ _ _)
   ·rw [if_neg (by omega), if_neg h59]
    by_cases h41 : c = 41
    ·rw [if_pos (by omega), if_pos h41]
     by_cases h0 : O.length = 0
     ·rw [if_pos (by omega), if_pos h0]; exact Ev.s7 K0 _ _ _ _ _ _ _
     ·have e1 : IntKind.wrap .i64 ((O.length : Int) - 1) = ((O.length - 1 : Nat) : Int) := by rw [qC (by omega) (by omega)]; omega
      have g : ((decide ((0 : Int) <= ((O.length - 1 : Nat) : Int)) && decide (((O.length - 1 : Nat) : Int) <= (O.length : Int))) && decide ((0 : Int) <= ((O.length - 1 : Nat) : Int))) = true := by simp
      rw [if_neg (by omega), if_neg h0]
      simp only [e1, Int.toNat_natCast, g, grd]
      exact Ev.s9 K1 _ _ _ _ _ _ _ _ _
    ·rw [if_neg (by omega), if_neg h41]
     by_cases h40 : c = 40
     ·rw [if_pos (by omega), if_pos h40, qIh h]
      have hb := wF h []
      have hbn := hb.1.n
      generalize jC N O [] = q at *
      have g : ∀ x : Int, O.length + ([x] : List Int).length <= 7818749353073 := fun x => by simp; omega
      rw [qC (by omega) (by omega)]
      simp only [qT (g _)]
      exact Ev.s7 K2 _ _ _ _ _ _ _
     ·rw [if_neg (by omega), if_neg h40, qNG hl (by omega)]
      have g : ((decide ((0 : Int) <= (i : Int)) && (decide ((0 : Int) <= ((i + run zW s i : Nat) : Int)) && decide (((i + run zW s i : Nat) : Int) <= (s.length : Int)))) && decide ((i : Int) <= ((i + run zW s i : Nat) : Int))) = true := by simp; omega
      simp only [g, grd, Int.toNat_natCast]
      rw [qIh h, List.drop_take, Nat.add_sub_cancel_left]
      exact Ev.s7 K0 _ _ _ _ _ _ _
 refine Ev.suc.trans ?_
 simp only [Z45.q12, Z45.q12.b, Ev.iteI, decide_eq_false_iff_not]
 rw [j0, j0]
 by_cases hb : b = true
 ·rw [if_pos hb, if_pos hb]; exact Ev.s7 K0 _ _ _ _ _ _ _
 ·rw [if_neg hb, if_neg hb]
  by_cases h32 : c < 32
  ·rw [if_neg (by omega), if_pos (by rfl), if_pos (.inl h32)]
  ·rw [if_pos (by omega)]
   by_cases h126 : 126 < c
   ·rw [if_pos (by rw [decide_eq_true_eq]; omega), if_pos (.inr h126)]
   ·rw [if_neg (show ¬ decide ((c : Int) > 126) = true by rw [decide_eq_true_eq]; omega), if_neg (show ¬ (c < 32 \/ 126 < c) by omega)]
end Go.Vsi
end
