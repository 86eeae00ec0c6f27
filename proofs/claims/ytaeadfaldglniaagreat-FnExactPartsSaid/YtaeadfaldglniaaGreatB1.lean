/- What the told functions answer. No statement is proved here. -/
import Derived.Test.YtaeadfaldglniaaGreatA1
set_option linter.unusedVariables false
set_option linter.unusedSimpArgs false
set_option synthInstance.maxSize 4096

section
namespace Go.Vsi
def Ev (P : Nat -> Prop) : Prop := ∃ N, ∀ n, N <= n -> P n
theorem Ev.succ {P : Nat -> Prop} : Ev (fun n => P (n + 1)) -> Ev P
 | ⟨N, h⟩ => ⟨N + 1, fun n hn => by obtain ⟨m, rfl⟩ : ∃ m, n = m + 1 := ⟨n - 1, by omega⟩; exact h m (by omega)⟩
theorem Ev.shift {P : Nat -> Prop} : Ev P -> Ev (fun n => P (n + 1))
 | ⟨N, h⟩ => ⟨N, fun n hn => h (n + 1) (by omega)⟩
theorem Ev.and {P Q : Nat -> Prop} : Ev P -> Ev Q -> Ev (fun n => P n /\ Q n)
 | ⟨N, h⟩, ⟨M, g⟩ => ⟨max N M, fun n hn => ⟨h n (by omega), g n (by omega)⟩⟩
theorem Ev.const {p : Prop} (h : p) : Ev (fun _ => p) := ⟨0, fun _ _ => h⟩
theorem Ev.imp {P Q : Nat -> Prop} (hpq : ∀ n, P n -> Q n) : Ev P -> Ev Q
 | ⟨N, h⟩ => ⟨N, fun n hn => hpq n (h n hn)⟩
theorem Ev.grd {b : Bool} {P : Nat -> Prop} (hb : b = true) (h : Ev P) : Ev (fun n => grd b (P n)) := by
 subst hb; exact h
theorem Ev.ite {c : Prop} [Decidable c] {P Q : Nat -> Prop} (h1 : c -> Ev P) (h2 : ¬ c -> Ev Q) : Ev (fun n => if c then P n else Q n) := by
 by_cases h : c
 ·simp only [if_pos h]; exact h1 h
 ·simp only [if_neg h]; exact h2 h
theorem Ev.pos {c : Prop} [Decidable c] {P Q : Nat -> Prop} (h : c) (h1 : Ev P) : Ev (fun n => if c then P n else Q n) := by
 simp only [if_pos h]; exact h1
theorem Ev.neg {c : Prop} [Decidable c] {P Q : Nat -> Prop} (h : ¬ c) (h1 : Ev Q) : Ev (fun n => if c then P n else Q n) := by
 simp only [if_neg h]; exact h1
theorem Ev.some {P : Nat -> Prop} : Ev P -> ∃ n, P n
 | ⟨N, h⟩ => ⟨N, h N (Nat.le_refl _)⟩
theorem qG {x : Int} (h1 : -9223372036854775808 <= x) (h2 : x < 9223372036854775808) : IntKind.wrap .i64 x = x := by
 simp only [IntKind.wrap, IntKind.bits, IntKind.signed, Bool.true_and]
 split <;> simp_all <;> omega
theorem qCw {x : Int} (h1 : 0 <= x) (h2 : x < 18446744073709551616) : IntKind.wrap .u64 x = x := by
 simp only [IntKind.wrap, IntKind.bits, IntKind.signed, Bool.false_and]
 simp; omega
theorem qMS {x : Int} (h1 : 0 <= x) (h2 : x < 256) : IntKind.wrap .u8 x = x := by
 simp only [IntKind.wrap, IntKind.bits, IntKind.signed, Bool.false_and]
 simp; omega
theorem qKv {x m : Int} (h : 0 <= x) : Int.tdiv x m = x / m := Int.tdiv_eq_ediv_of_nonneg h
theorem qL0 {x m : Int} (h : 0 <= x) : Int.tmod x m = x % m := Int.tmod_eq_emod_of_nonneg h
theorem qNa {x m : Int} (h : 0 <= m) : Int.fdiv x m = x / m := Int.fdiv_eq_ediv_of_nonneg x h
def W (ws : List Nat) : List Int := ws.map Int.ofNat
theorem qJ7 (ws : List Nat) : (W ws).length = ws.length := by simp [W]
theorem qPS (ws : List Nat) (i : Nat) : rd (W ws) i = ((ws.getD i 0 : Nat) : Int) := by
 simp only [rd, W, List.getD_eq_getElem?_getD, List.getElem?_map]
 cases ws[i]? <;> rfl
def Below (m : Nat) (ws : List Nat) : Prop := ∀ x ∈ ws, x < m
theorem qPT {m : Nat} : ∀ {l : List Int}, (∀ x ∈ l, 0 <= x /\ x < (m : Int)) -> ∃ ws, l = W ws /\ Below m ws
 | [], _ => ⟨[], rfl, by simp [Below]⟩
 | x :: l, h => by
  obtain ⟨ws, rfl, hb⟩ := qPT (l := l) fun y hy => h y (by simp [hy])
  have hx := h x (by simp)
  refine ⟨x.toNat :: ws, ?_, ?_⟩
  ·simp only [W, List.map_cons, List.cons.injEq, and_true]
   show x = (x.toNat : Int); omega
  ·intro y hy
   simp only [List.mem_cons] at hy
   rcases hy with rfl | hy
   ·omega
   ·exact hb y hy
theorem Below.getD {m : Nat} {ws : List Nat} (h : Below m ws) (hm : 0 < m) (i : Nat) : ws.getD i 0 < m := by
 rw [List.getD_eq_getElem?_getD]
 cases hw : ws[i]? with
 | none => exact hm
 | some y => exact h y (List.mem_of_getElem? hw)
theorem Below.set {m : Nat} {ws : List Nat} (h : Below m ws) {i x : Nat} (hx : x < m) : Below m (ws.set i x) := by
 intro y hy
 rcases List.mem_or_eq_of_mem_set hy with h' | rfl
 ·exact h y h'
 ·exact hx
theorem Below.app {m : Nat} {a b : List Nat} (ha : Below m a) (hb : Below m b) : Below m (a ++ b) := by
 intro y hy
 rcases List.mem_append.mp hy with h | h
 ·exact ha y h
 ·exact hb y h
theorem qPy {a b : Nat} (ha : a < 18446744073709551616) (hb : b < 18446744073709551616) : qJz .and .u64 (a : Int) (b : Int) = ((a &&& b : Nat) : Int) := by
 have hab : a &&& b < 2 ^ 64 := Nat.and_lt_two_pow a hb
 show IntKind.wrap .u64 (((BitVec.ofInt 64 (a : Int) &&& BitVec.ofInt 64 (b : Int) : BitVec 64).toNat : Nat) : Int) = _
 rw [BitVec.toNat_and, BitVec.ofInt_natCast, BitVec.ofInt_natCast, BitVec.toNat_ofNat, BitVec.toNat_ofNat]
 rw [Nat.mod_eq_of_lt ha, Nat.mod_eq_of_lt hb]
 exact qCw (by omega) (by omega)
theorem qPt (a k : Nat) (hk : k <= 64) : Int.fdiv (a : Int) (2 ^ (Nat.min k 64)) = ((a >>> k : Nat) : Int) := by
 rw [qNa (Int.le_of_lt (Int.pow_pos (by decide))), show Nat.min k 64 = k from Nat.min_eq_left hk, Nat.shiftRight_eq_div_pow]
 simp
def bit (ws : List Nat) (i : Nat) : Bool := (ws.getD (i / 64) 0).testBit (i % 64)
theorem qGI {ws : List Nat} {i : Nat} (h : 64 * ws.length <= i) : bit ws i = false := by
 have : ws.length <= i / 64 := by omega
 simp [bit, List.getD_eq_getElem?_getD, List.getElem?_eq_none this]
theorem Ev.suc {P : Nat -> Prop} : Ev P ↔ Ev (fun n => P (n + 1)) := ⟨Ev.shift, Ev.succ⟩
theorem Ev.s0 (R : Nat -> Prop) : Ev (fun n => R (n + 1)) ↔ Ev (fun n => R n) := ⟨Ev.succ, Ev.shift⟩
theorem Ev.s1 {α : Type} (R : Nat -> α -> Prop) (a : α) : Ev (fun n => R (n + 1) a) ↔ Ev (fun n => R n a) := Ev.s0 (fun n => R n a)
theorem Ev.s2 {α β : Type} (R : Nat -> α -> β -> Prop) (a : α) (b : β) : Ev (fun n => R (n + 1) a b) ↔ Ev (fun n => R n a b) := Ev.s0 (fun n => R n a b)
theorem Ev.s3 {α β γ : Type} (R : Nat -> α -> β -> γ -> Prop) (a : α) (b : β) (c : γ) : Ev (fun n => R (n + 1) a b c) ↔ Ev (fun n => R n a b c) := Ev.s0 (fun n => R n a b c)
theorem Ev.s4 {α β γ δ : Type} (R : Nat -> α -> β -> γ -> δ -> Prop) (a : α) (b : β) (c : γ) (d : δ) : Ev (fun n => R (n + 1) a b c d) ↔ Ev (fun n => R n a b c d) := Ev.s0 (fun n => R n a b c d)
theorem Ev.s6 {α β γ δ ε ζ : Type} (R : Nat -> α -> β -> γ -> δ -> ε -> ζ -> Prop) (a : α) (b : β) (c : γ) (d : δ) (e : ε) (f : ζ) : Ev (fun n => R (n + 1) a b c d e f) ↔ Ev (fun n => R n a b c d e f) := Ev.s0 (fun n => R n a b c d e f)
theorem Ev.s7 {α β γ δ ε ζ η : Type} (R : Nat -> α -> β -> γ -> δ -> ε -> ζ -> η -> Prop) (a : α) (b : β) (c : γ) (d : δ) (e : ε) (f : ζ) (g : η) : Ev (fun n => R (n + 1) a b c d e f g) ↔ Ev (fun n => R n a b c d e f g) := Ev.s0 (fun n => R n a b c d e f g)
theorem Ev.s8 {α β γ δ ε ζ η θ : Type} (R : Nat -> α -> β -> γ -> δ -> ε -> ζ -> η -> θ -> Prop) (a : α) (b : β) (c : γ) (d : δ) (e : ε) (f : ζ) (g : η) (h : θ) : Ev (fun n => R (n + 1) a b c d e f g h) ↔ Ev (fun n => R n a b c d e f g h) := Ev.s0 (fun n => R n a b c d e f g h)
theorem Ev.s9 {α β γ δ ε ζ η θ ι : Type} (R : Nat -> α -> β -> γ -> δ -> ε -> ζ -> η -> θ -> ι -> Prop) (a : α) (b : β) (c : γ) (d : δ) (e : ε) (f : ζ) (g : η) (h : θ) (i : ι) : Ev (fun n => R (n + 1) a b c d e f g h i) ↔ Ev (fun n => R n a b c d e f g h i) := Ev.s0 (fun n => R n a b c d e f g h i)
theorem Ev.s10 {α β γ δ ε ζ η θ ι κ : Type} (R : Nat -> α -> β -> γ -> δ -> ε -> ζ -> η -> θ -> ι -> κ -> Prop) (a : α) (b : β) (c : γ) (d : δ) (e : ε) (f : ζ) (g : η) (h : θ) (i : ι) (j : κ) : Ev (fun n => R (n + 1) a b c d e f g h i j) ↔ Ev (fun n => R n a b c d e f g h i j) := Ev.s0 (fun n => R n a b c d e f g h i j)
@[simp] theorem Ev.k {p : Prop} : Ev (fun _ => p) ↔ p := ⟨fun ⟨_, h⟩ => h _ (Nat.le_refl _), Ev.const⟩
@[simp] theorem Ev.iteI {c : Prop} [Decidable c] {P Q : Nat -> Prop} : Ev (fun n => if c then P n else Q n) ↔ if c then Ev P else Ev Q := by
 by_cases h : c <;> simp only [h, if_true, if_false]
@[simp] theorem Ev.andI {P Q : Nat -> Prop} : Ev (fun n => P n /\ Q n) ↔ Ev P /\ Ev Q :=
 ⟨fun ⟨N, h⟩ => ⟨⟨N, fun n hn => (h n hn).1⟩, ⟨N, fun n hn => (h n hn).2⟩⟩, fun h => Ev.and h.1 h.2⟩
theorem kL {p : Prop} [Decidable p] {P : Prop} (h : p) : grd (decide p) P ↔ P := by rw [decide_eq_true h]; exact Iff.rfl
theorem qF {p q : Prop} [Decidable p] [Decidable q] {P : Prop} (h : p /\ q) : grd (decide p && decide q) P ↔ P := by rw [decide_eq_true h.1, decide_eq_true h.2]; exact Iff.rfl
theorem qHs {p q r : Prop} [Decidable p] [Decidable q] [Decidable r] {P : Prop} (h : p /\ q /\ r) : grd (decide p && decide q && decide r) P ↔ P := by rw [decide_eq_true h.1, decide_eq_true h.2.1, decide_eq_true h.2.2]; exact Iff.rfl
@[simp] theorem qPm {P : Prop} : grd true P ↔ P := Iff.rfl
theorem qJ {α : Type} {l : List α} {x : Int} (h : l.drop x.toNat = []) (h0 : 0 <= x) : (l.length : Int) <= x := by
 have := List.drop_eq_nil_iff.1 h; omega
theorem qD {α : Type} [Inhabited α] {l ys : List α} {x : Int} {y : α} (h : l.drop x.toNat = y :: ys) (h0 : 0 <= x) :
  x < (l.length : Int) /\ rd l x.toNat = y /\ l.drop (x + 1).toNat = ys := by
 have hl : x.toNat < l.length := by
  rcases Nat.lt_or_ge x.toNat l.length with h' | h'
  ·exact h'
  ·rw [List.drop_eq_nil_of_le h'] at h; cases h
 refine ⟨by omega, ?_, ?_⟩
 ·have := List.getElem?_drop (xs := l) (i := x.toNat) (j := 0)
  rw [h] at this
  simp only [List.getElem?_cons_zero, Nat.add_zero] at this
  simp [rd, List.getD_eq_getElem?_getD, <- this]
 ·rw [show (x + 1).toNat = x.toNat + 1 from by omega, <- List.drop_drop, h]; rfl
theorem yX {α : Type} {l ys : List α} {x : Int} {v : α} (h : l.drop (x + 1).toNat = ys) (h0 : 0 <= x) : (l.set x.toNat v).drop (x + 1).toNat = ys := by
 rw [List.drop_set_of_lt (by omega), h]
theorem zR {α : Type} {l : List α} {x : Int} {v : α} (h0 : 0 <= x) (hx : x < (l.length : Int)) : (l.set x.toNat v).take (x + 1).toNat = l.take x.toNat ++ [v] := by
 have e : (x + 1).toNat = x.toNat + 1 := by omega
 have hl : x.toNat < l.length := by omega
 rw [e, List.take_succ_eq_append_getElem (by simpa using hl), List.take_set_of_le (by omega)]
 simp
theorem qBW {α : Type} [Inhabited α] {l : List α} {i : Nat} {v : α} (h : i < l.length) : rd (l.set i v) i = v := by
 simp [rd, List.getD_eq_getElem?_getD, h]
theorem jN {α : Type} {R : Nat -> α -> Prop} {a b : α} (h : a = b) : Ev (fun n => R n a) ↔ Ev (fun n => R n b) := by rw [h]
theorem qJN {R : Nat -> Bool -> Prop} {b : Bool} : (if b = true then Ev (fun n => R n true) else Ev (fun n => R n false)) ↔ Ev (fun n => R n b) := by cases b <;> simp
theorem qAN {α β : Type} {R : Nat -> α -> β -> Prop} {a b : α} {c : β} (h : a = b) : Ev (fun n => R n a c) ↔ Ev (fun n => R n b c) := by rw [h]
theorem qAM {α β : Type} {R : Nat -> α -> β -> Prop} {a b : α} {c d : β} (h : a = b) (h' : c = d) : Ev (fun n => R n a c) ↔ Ev (fun n => R n b d) := by rw [h, h']
def Gd : (t : Ty) -> t.T -> Prop
 | .int k, n => k.min <= n /\ n <= k.max
 | .str, s => s.length <= 9223372036854775807
 | .sl _ t, l => l.length <= 9223372036854775807 /\ ∀ y, y ∈ l -> Gd t y
 | .prod a b, p => Gd a p.1 /\ Gd b p.2
 | .bool, _ => True
 | .unit, _ => True
 | .ptr _ _, _ => True
def zM {α : Type} (p : α -> Bool) : List α -> Int -> Int
 | [], _ => -1
 | y :: r, x => if p y = true then x else zM p r (x + 1)
theorem qAK {α : Type} {p : α -> Bool} : ∀ {l : List α} {x : Int}, 0 <= x -> zM p l x < 0 -> zM p l x = -1
 | [], x, _, _ => rfl
 | y :: l, x, h0, h => by
  rw [zM] at h ⊢
  split
  ·rename_i hp; rw [if_pos hp] at h; omega
  ·rename_i hp; rw [if_neg hp] at h; exact qAK (by omega) h
theorem qAL {α : Type} {p : α -> Bool} : ∀ {l : List α} {x : Int}, 0 <= x -> decide (zM p l x >= 0) = l.any p
 | [], x, _ => by simp [zM]
 | y :: l, x, h0 => by
  rw [zM, List.any_cons]
  by_cases hp : p y = true
  ·simp [hp, h0]
  ·rw [if_neg hp, qAL (by omega)]
   simp only [Bool.not_eq_true] at hp
   simp [hp]
def szr (left : Int) (z : Nat) : Int := if left < z then -1 else left - z
theorem qID {left : Int} {z : Nat} : szr left z < 0 ↔ left < z := by unfold szr; split <;> omega
theorem qLd {left : Int} {z : Nat} (h : (z : Int) <= left) : szr left z = left - z := by unfold szr; rw [if_neg (by omega)]
theorem qLe {left : Int} {z : Nat} (h : ¬ (z : Int) <= left) : szr left z = -1 := by unfold szr; rw [if_pos (by omega)]
theorem qGg {left : Int} {y z : Nat} (h : 0 <= left) (hy : ¬ szr left y < 0) : szr (szr left y) z = szr left (y + z) := by
 rw [qID] at hy
 unfold szr; split <;> split <;> split <;> omega
theorem qEk {left : Int} {y z : Nat} (h : szr left y < 0) : szr left (y + z) = -1 := by
 rw [qID] at h; unfold szr; split <;> omega
theorem qFa {left : Int} {z : Nat} (h : -1 <= left) : -1 <= szr left z := by unfold szr; split <;> omega
theorem xL {left b : Int} {z : Nat} (h : -1 <= left) (h' : left <= b) : szr left z <= b := by unfold szr; split <;> omega
def Wd (l : List Int) : Prop := ∀ x ∈ l, 0 <= x /\ x <= 18446744073709551615
def vS (w : Int) (l : List Int) : Bool := decide (1 <= w /\ w <= 4096 /\ (l.length : Int) = (w + 63) / 64 /\ (w % 64 = 0 \/ rd l (l.length - 1) / 2 ^ (w % 64).toNat = 0))
theorem qMA {x j : Nat} : x / 2 ^ j % 2 = (x.testBit j).toNat := by
 rw [Nat.testBit, Nat.shiftRight_eq_div_pow, Nat.one_and_eq_mod_two]
 rcases Nat.mod_two_eq_zero_or_one (x / 2 ^ j) with h | h <;> simp [h]
theorem kY {a b c : Int} (R : Nat -> Bool -> Prop) : Ev (fun n => Z77.c n a b c (R n)) ↔ Ev (fun n => R n (decide (b <= a /\ a <= c))) := by
 refine Ev.suc.trans ?_
 simp only [Z77.c, Z77.w, Ev.iteI, decide_eq_true_eq, Ev.s1 R, ge_iff_le]
 split
 ·refine jN ?_; rw [decide_eq_decide]; omega
 ·refine jN ?_; symm; rw [decide_eq_false_iff_not]; omega
theorem wM {a b c : Int} (R : Nat -> Bool -> Prop) : Ev (fun n => Z9.c n a b c (R n)) ↔ Ev (fun n => R n (decide (b <= a /\ a <= c))) := by
 refine Ev.suc.trans ?_
 simp only [Z9.c, Z9.w, Ev.iteI, decide_eq_true_eq, Ev.s1 R, ge_iff_le]
 split
 ·refine jN ?_; rw [decide_eq_decide]; omega
 ·refine jN ?_; symm; rw [decide_eq_false_iff_not]; omega
theorem qGf {a : Int} (h0 : 0 <= a) (h1 : a <= 1000000000) (R : Nat -> Int -> Prop) : Ev (fun n => Z17.c n a (R n)) ↔ Ev (fun n => R n ((a + 63) / 64)) := by
 refine Ev.suc.trans ?_
 simp (disch := omega) only [Z17.c, Z17.w, qG, qKv, Ev.s1 R]
theorem qKP {ws : List Nat} (hw : Below 18446744073709551616 ws) {k : Nat} (hk : k < 64 * ws.length) (hl : ws.length <= 4096) {w : Int} (R : Nat -> Int -> Prop) :
  Ev (fun n => Z74.c n w (W ws) k (R n)) ↔ Ev (fun n => R n ((bit ws k).toNat : Int)) := by
 refine Ev.suc.trans ?_
 have e : qJz .and .u64 ((ws.getD (k / 64) 0 >>> (k % 64) : Nat) : Int) 1 = (((bit ws k).toNat : Nat) : Int) := by
  have hx : ws.getD (k / 64) 0 >>> (k % 64) < 18446744073709551616 := by
   rw [Nat.shiftRight_eq_div_pow]; exact Nat.lt_of_le_of_lt (Nat.div_le_self _ _) (hw.getD (by decide) _)
  rw [show (1 : Int) = ((1 : Nat) : Int) from rfl, qPy hx (by decide), Nat.and_one_is_mod, Nat.shiftRight_eq_div_pow, qMA]; rfl
 have e1 : Int.toNat ((k : Int) / 64) = k / 64 := by omega
 have e2 : Int.toNat ((k : Int) % 64) = k % 64 := by omega
 simp (disch := omega) only [Z74.c, Z74.w, qJ7, qKv, qL0, qG, qCw, qF, kL, e1, e2, qPS, qPt, e]
 rw [qMS (by omega) (by cases bit ws k <;> simp), Ev.s1 R]
theorem qFf {ws : List Nat} (hw : Below 18446744073709551616 ws) (hl : ws.length <= 4096) {w : Int} : ∀ (m k : Nat), k + m = 64 * ws.length -> ∃ b : Bool, (b = true ↔ ∀ i, k <= i -> bit ws i = false) /\
  ∀ (Kx : Nat -> Prop) (Kr : Nat -> Bool -> Prop), (Ev (fun n => Z66.l4 n w (W ws) k (Kx n) (Kr n)) ↔ if b = true then Ev Kx else Ev (fun n => Kr n false))
 | 0, k, h => by
  refine ⟨true, ⟨fun _ i hi => qGI (by omega), fun _ => rfl⟩, fun Kx Kr => ?_⟩
  refine Ev.suc.trans ?_
  simp (disch := omega) only [Z66.l4, Z66.l4.b, qJ7, qG, if_neg, decide_eq_true_eq, Ev.s0 Kx, if_true]
 | m + 1, k, h => by
  obtain ⟨b, hb, kk⟩ := qFf hw hl (w := w) m (k + 1) (by omega)
  refine ⟨b && !bit ws k, ?_, fun Kx Kr => ?_⟩
  ·simp only [Bool.and_eq_true, Bool.not_eq_true', hb]
   constructor
   ·rintro ⟨h1, h2⟩ i hi
    rcases Nat.lt_or_eq_of_le hi with h' | rfl
    ·exact h1 i h'
    ·exact h2
   ·exact fun h => ⟨fun i hi => h i (by omega), h k (Nat.le_refl _)⟩
  ·refine Ev.suc.trans ?_
   have e : ((k : Int) + 1) = ((k + 1 : Nat) : Int) := by omega
   simp (disch := omega) only [Z66.l4, Z66.l4.b, qJ7, qG, if_pos, decide_eq_true_eq, qKP hw _ hl, Ev.iteI, Bool.not_eq_true', decide_eq_false_iff_not, e, kk, Ev.s0 Kx, Ev.s1 Kr]
   cases bit ws k <;> simp
theorem qG3 {w : Int} {ws : List Nat} (hw : Below 18446744073709551616 ws) (h1 : 1 <= w) (h2 : (ws.length : Int) = (w + 63) / 64) (hr : w % 64 ≠ 0) :
  ws.getD (ws.length - 1) 0 >>> (w % 64).toNat = 0 ↔ ∀ i : Nat, w <= i -> bit ws i = false := by
 constructor
 ·intro h i hi
  by_cases ho : 64 * ws.length <= i
  ·exact qGI ho
  ·have e1 : i / 64 = ws.length - 1 := by omega
   have := congrArg (fun y => Nat.testBit y (i % 64 - (w % 64).toNat)) h
   simp only [Nat.testBit_shiftRight, Nat.zero_testBit] at this
   rw [show (w % 64).toNat + (i % 64 - (w % 64).toNat) = i % 64 from by omega] at this
   rw [bit, e1]; exact this
 ·intro h
  apply Nat.eq_of_testBit_eq
  intro j
  rw [Nat.testBit_shiftRight, Nat.zero_testBit]
  by_cases hj : (w % 64).toNat + j < 64
  ·have := h (64 * (ws.length - 1) + ((w % 64).toNat + j)) (by omega)
   rw [bit, show (64 * (ws.length - 1) + ((w % 64).toNat + j)) / 64 = ws.length - 1 from by omega, show (64 * (ws.length - 1) + ((w % 64).toNat + j)) % 64 = (w % 64).toNat + j from by omega] at this
   exact this
  ·exact Nat.testBit_lt_two_pow (Nat.lt_of_lt_of_le (hw.getD (by decide) _) (Nat.pow_le_pow_right (n := 2) (by decide) (Nat.not_lt.mp hj)))
theorem qK4 {w : Int} {ws : List Nat} (hw : Below 18446744073709551616 ws) : vS w (W ws) = true ↔ 1 <= w /\ w <= 4096 /\ (ws.length : Int) = (w + 63) / 64 /\ ∀ i : Nat, w <= i -> bit ws i = false := by
 rw [vS, decide_eq_true_eq, qJ7, qPS]
 refine ⟨fun ⟨h1, h2, h3, h4⟩ => ⟨h1, h2, h3, ?_⟩, fun ⟨h1, h2, h3, h4⟩ => ⟨h1, h2, h3, ?_⟩⟩
 ·by_cases h5 : w % 64 = 0
  ·exact fun i hi => qGI (by omega)
  ·rcases h4 with h4 | h4
   ·exact absurd h4 h5
   ·rw [<- qG3 hw h1 h3 h5, Nat.shiftRight_eq_div_pow]
    exact_mod_cast h4
 ·by_cases h5 : w % 64 = 0
  ·exact Or.inl h5
  ·have := (qG3 hw h1 h3 h5).2 h4
   rw [Nat.shiftRight_eq_div_pow] at this
   exact Or.inr (by exact_mod_cast this)
theorem Wd.of {l : List Int} (h : Wd l) : ∃ ws, l = W ws /\ Below 18446744073709551616 ws := qPT fun x hx => ⟨(h x hx).1, by have := (h x hx).2; omega⟩
theorem qIH {w : Int} {l : List Int} (hw : Wd l) (R : Nat -> Bool -> Prop) : Ev (fun n => Z66.c n w l (R n)) ↔ Ev (fun n => R n (vS w l)) := by
 obtain ⟨ws, rfl, hB⟩ := hw.of
 have hiff := qK4 (w := w) hB
 refine Ev.suc.trans ?_
 simp (disch := omega) only [Z66.c, Z66.w, kY, Ev.iteI, Bool.not_eq_false', Bool.not_eq_true', decide_eq_true_eq, decide_eq_false_iff_not, qJ7]
 by_cases h1 : 1 <= w /\ w <= 4096
 ·rw [if_pos h1, qG (x := w + 63) (by omega) (by omega), qKv (by omega), qG (by omega) (by omega)]
  by_cases h2 : (ws.length : Int) = (w + 63) / 64
  ·obtain ⟨b, hb, kk⟩ := qFf hB (by omega) (w := w) (64 * ws.length - w.toNat) w.toNat (by omega)
   have e : ((w.toNat : Nat) : Int) = w := by omega
   rw [e] at kk
   rw [if_neg (by omega), kk, Ev.s1 R, Ev.s1 R]
   have : b = vS w (W ws) := by
    rw [Bool.eq_iff_iff, hb, hiff]
    exact ⟨fun h => ⟨h1.1, h1.2, h2, fun i hi => h i (by omega)⟩, fun h i hi => h.2.2.2 i (by omega)⟩
   rw [<- this]
   cases b <;> rfl
  ·rw [if_pos h2, Ev.s1 R]
   have : vS w (W ws) = false := by
    rw [Bool.eq_false_iff]; intro h; exact h2 (hiff.1 h).2.2.1
   rw [this]
 ·rw [if_neg h1, Ev.s1 R]
  have : vS w (W ws) = false := by
   rw [Bool.eq_false_iff]; intro h; exact h1 ⟨(hiff.1 h).1, (hiff.1 h).2.1⟩
  rw [this]
theorem qJw {w : Int} {l : List Int} (R : Nat -> Bool -> Prop) : Ev (fun n => Z0.c n w l (R n)) ↔ Ev (fun n => R n (vS w l)) := by
 refine Ev.suc.trans ?_
 simp only [Z0.c, Z0.w, wM, Ev.iteI, Ev.andI, Bool.not_eq_false', Bool.not_eq_true', decide_eq_true_eq, decide_eq_false_iff_not, Ev.s1 R, and_self]
 by_cases h1 : 1 <= w /\ w <= 4096
 ·rw [if_pos h1]
  simp (disch := omega) only [qGf, Ev.iteI, Bool.not_eq_true', decide_eq_false_iff_not, Ev.s1 R]
  by_cases h2 : (l.length : Int) = (w + 63) / 64
  ·rw [if_neg (by omega)]
   simp (disch := omega) only [Z0.j0, qL0, Ev.iteI, decide_eq_false_iff_not, qG, qF, kL, Ev.s1 R]
   by_cases h3 : w % 64 = 0
   ·rw [if_neg (by omega), show vS w l = true from by simp [vS, h1, h2, h3]]
   ·rw [if_pos h3]
    refine jN ?_
    have e1 : ((l.length : Int) - 1).toNat = l.length - 1 := by omega
    have e2 : Nat.min (w % 64).toNat 64 = (w % 64).toNat := Nat.min_eq_left (by omega)
    rw [e1, e2, qNa (Int.le_of_lt (Int.pow_pos (by decide)))]
    simp [vS, h1, h2, h3]
  ·rw [if_pos h2, show vS w l = false from by simp [vS, h2]]
 ·rw [if_neg h1, show vS w l = false from by
   rw [Bool.eq_false_iff]; intro h; rw [vS, decide_eq_true_eq] at h; exact h1 ⟨h.1, h.2.1⟩]
theorem qFK {l ys : List UInt8} {x : Int} {y : UInt8} (h : l.drop x.toNat = y :: ys) (h0 : 0 <= x) : x < (l.length : Int) /\ List.getD l x.toNat 0 = y /\ l.drop (x + 1).toNat = ys :=
 qD h h0
def qLt (c : UInt8) : Bool := decide ((97 <= (c.toNat : Int) /\ (c.toNat : Int) <= 122) \/ (48 <= (c.toNat : Int) /\ (c.toNat : Int) <= 57))
def qCV (s : List UInt8) : Bool := decide (1 <= s.length /\ s.length <= 12 /\ 97 <= ((List.getD s 0 0).toNat : Int) /\ ((List.getD s 0 0).toNat : Int) <= 122) && s.all qLt
theorem qFv {s : List UInt8} (hl : s.length <= 1099511627776) : ∀ (ys : List UInt8) (x : Int), s.drop x.toNat = ys -> 0 <= x -> ∀ (Kx : Nat -> Prop) (Kr : Nat -> Bool -> Prop),
  (Ev (fun n => Z11.l4 n s x (Kx n) (Kr n)) ↔ if ys.all qLt = true then Ev Kx else Ev (fun n => Kr n false))
 | [], x, h, h0, Kx, Kr => by
  have := qJ h h0
  refine Ev.suc.trans ?_
  simp (disch := omega) only [Z11.l4, Z11.l4.b, if_neg, decide_eq_true_eq, Ev.s0 Kx, List.all_nil, if_true]
 | y :: ys, x, h, h0, Kx, Kr => by
  obtain ⟨e1, e2, e3⟩ := qFK h h0
  refine Ev.suc.trans ?_
  simp (disch := omega) only [Z11.l4, Z11.l4.b, if_pos, decide_eq_true_eq, decide_eq_false_iff_not, qF, e2, qG, Ev.iteI, qFv hl ys (x + 1) e3, Ev.s0 Kx, Ev.s1 Kr, List.all_cons, Bool.and_eq_true]
  simp only [qLt, decide_eq_true_eq]
  (repeat' split) <;> first | rfl | (exfalso; omega) | (exfalso; simp_all; omega) | (simp_all; done)
theorem qI8 {s : List UInt8} (R : Nat -> Bool -> Prop) : Ev (fun n => Z11.c n s (R n)) ↔ Ev (fun n => R n (qCV s)) := by
 refine Ev.suc.trans ?_
 simp only [Z11.c, Z11.w, Ev.iteI, decide_eq_true_eq, decide_eq_false_iff_not, qCV]
 by_cases h1 : 1 <= s.length /\ s.length <= 12
 ·rw [if_pos (by omega), if_pos (by omega)]
  simp (disch := omega) only [kL, Ev.iteI, qFv (by omega) s 0 rfl, Ev.s1 R, decide_eq_false_iff_not, decide_eq_true_eq]
  by_cases h2 : 97 <= ((List.getD s 0 0).toNat : Int) /\ ((List.getD s 0 0).toNat : Int) <= 122
  ·rw [if_pos (by omega), if_neg (by omega)]
   rw [show (decide (1 <= s.length /\ s.length <= 12 /\ 97 <= ((List.getD s 0 0).toNat : Int) /\ ((List.getD s 0 0).toNat : Int) <= 122)) = true from by rw [decide_eq_true_eq]; omega, Bool.true_and]
   exact qJN
  ·rw [show (decide (1 <= s.length /\ s.length <= 12 /\ 97 <= ((List.getD s 0 0).toNat : Int) /\ ((List.getD s 0 0).toNat : Int) <= 122)) = false from by rw [decide_eq_false_iff_not]; omega, Bool.false_and]
   split <;> (try split) <;> first | rfl | (exfalso; omega)
 ·rw [show (decide (1 <= s.length /\ s.length <= 12 /\ 97 <= ((List.getD s 0 0).toNat : Int) /\ ((List.getD s 0 0).toNat : Int) <= 122)) = false from by rw [decide_eq_false_iff_not]; omega, Bool.false_and, Ev.s1 R]
  split <;> (try split) <;> first | rfl | (exfalso; omega)
theorem qDW {a : Int} (R : Nat -> Bool -> Prop) : Ev (fun n => Z75.c n a (R n)) ↔ Ev (fun n => R n (decide (48 <= a /\ a <= 57))) := by
 refine Ev.suc.trans ?_
 simp only [Z75.c, Z75.w, Ev.iteI, decide_eq_true_eq, Ev.s1 R, ge_iff_le]
 split
 ·refine jN ?_; rw [decide_eq_decide]; omega
 ·refine jN ?_; symm; rw [decide_eq_false_iff_not]; omega
theorem qFE {s : List UInt8} (hl : s.length <= 1099511627776) : ∀ (ys : List UInt8) (x : Int), s.drop x.toNat = ys -> 0 <= x -> ∀ (Kx : Nat -> Prop) (Kr : Nat -> Bool -> Prop),
  (Ev (fun n => Z78.l4 n s x (Kx n) (Kr n)) ↔ if ys.all qLt = true then Ev Kx else Ev (fun n => Kr n false))
 | [], x, h, h0, Kx, Kr => by
  have := qJ h h0
  refine Ev.suc.trans ?_
  simp (disch := omega) only [Z78.l4, Z78.l4.b, if_neg, decide_eq_true_eq, Ev.s0 Kx, List.all_nil, if_true]
 | y :: ys, x, h, h0, Kx, Kr => by
  obtain ⟨e1, e2, e3⟩ := qFK h h0
  refine Ev.suc.trans ?_
  simp (disch := omega) only [Z78.l4, Z78.l4.b, if_pos, decide_eq_true_eq, decide_eq_false_iff_not, Bool.not_eq_true', qF, e2, qG, qDW, Ev.iteI, qFE hl ys (x + 1) e3, Ev.s0 Kx, Ev.s1 Kr, List.all_cons, Bool.and_eq_true]
  simp only [qLt, decide_eq_true_eq]
  (repeat' split) <;> first | rfl | (exfalso; omega) | (exfalso; simp_all; omega) | (simp_all; done)
theorem qJp {s : List UInt8} (R : Nat -> Bool -> Prop) : Ev (fun n => Z78.c n s (R n)) ↔ Ev (fun n => R n (qCV s)) := by
 refine Ev.suc.trans ?_
 simp only [Z78.c, Z78.w, Ev.iteI, decide_eq_true_eq, decide_eq_false_iff_not, qCV]
 by_cases h1 : 1 <= s.length /\ s.length <= 12
 ·rw [if_pos (by omega), if_pos (by omega)]
  simp (disch := omega) only [kL, qDW, Ev.iteI, qFE (by omega) s 0 rfl, Ev.s1 R, decide_eq_false_iff_not, decide_eq_true_eq]
  match s, h1 with
  | c :: r, h1 =>
   have e : (List.getD (c :: r) 0 0) = c := rfl
   rw [e]
   by_cases h2 : 48 <= (c.toNat : Int) /\ (c.toNat : Int) <= 57
   ·rw [if_pos h2, show (decide (1 <= (c :: r).length /\ (c :: r).length <= 12 /\ 97 <= (c.toNat : Int) /\ (c.toNat : Int) <= 122)) = false from by rw [decide_eq_false_iff_not]; omega, Bool.false_and]
   ·rw [if_neg h2]
    by_cases h3 : qLt c = true
    ·have : 97 <= (c.toNat : Int) /\ (c.toNat : Int) <= 122 := by
      rw [qLt, decide_eq_true_eq] at h3; omega
     rw [show (decide (1 <= (c :: r).length /\ (c :: r).length <= 12 /\ 97 <= (c.toNat : Int) /\ (c.toNat : Int) <= 122)) = true from by rw [decide_eq_true_eq]; omega, Bool.true_and]
     exact qJN
    ·rw [List.all_cons, if_neg (by simp [h3]), show qLt c = false from by simpa using h3, Bool.false_and, Bool.and_false]
  | [], h1 => simp at h1
 ·rw [show (decide (1 <= s.length /\ s.length <= 12 /\ 97 <= ((List.getD s 0 0).toNat : Int) /\ ((List.getD s 0 0).toNat : Int) <= 122)) = false from by rw [decide_eq_false_iff_not]; omega, Bool.false_and, Ev.s1 R]
  split <;> (try split) <;> first | rfl | (exfalso; omega)
theorem qFU {a : List UInt8} {b : Int} {z : List UInt8} (R : Nat -> Bool -> Prop) : Ev (fun n => Z7.c n a b z (R n)) ↔ Ev (fun n => R n (decide (a = z))) := by
 refine Ev.suc.trans ?_
 simp only [Z7.c, Z7.w, Ev.s1 R]
 refine jN ?_
 rw [Bool.eq_iff_iff]; simp
theorem qLv {l : List qP} {z : List UInt8} (hl : l.length <= 1099511627776) : ∀ (ys : List qP) (x : Int), l.drop x.toNat = ys -> 0 <= x ->
  ∀ (Kx : Nat -> Prop) (Kr : Nat -> Int -> Prop),
  (Ev (fun n => Z63.l2 n l z l.length x (Kx n) (Kr n)) ↔ if zM (fun y => decide (y.1 = z)) ys x < 0 then Ev Kx else Ev (fun n => Kr n (zM (fun y => decide (y.1 = z)) ys x)))
 | [], x, h, h0, Kx, Kr => by
  have := qJ h h0
  rw [zM, if_pos (by decide)]
  refine Ev.suc.trans ?_
  simp (disch := omega) only [Z63.l2, Z63.l2.b, if_neg, decide_eq_true_eq, Ev.s0 Kx]
 | y :: ys, x, h, h0, Kx, Kr => by
  obtain ⟨e1, e2, e3⟩ := qD h h0
  refine Ev.suc.trans ?_
  simp (disch := first | omega | omega) only [Z63.l2, Z63.l2.b, if_pos, decide_eq_true_eq, qF, e2, qG, Ev.s1 Kr, qFU, Ev.iteI]
  rw [qLv hl ys (x + 1) e3 (by omega), Ev.s0 Kx, Ev.s1 Kr]
  simp only [zM, decide_eq_true_eq]
  split
  ·rw [if_neg (by omega)]
  ·rfl
theorem qNI {l : List qP} {z : List UInt8} (hl : l.length <= 1099511627776) (R : Nat -> Int -> Prop) :
  Ev (fun n => Z63.c n l z (R n)) ↔ Ev (fun n => R n (zM (fun y => decide (y.1 = z)) l 0)) := by
 refine Ev.suc.trans ?_
 simp only [Z63.c, Z63.w]
 rw [qLv hl l 0 rfl (by omega), Ev.s1 R, Ev.s1 R]
 split
 ·rw [qAK (by omega) ‹_›]
 ·rfl
theorem qGC {l : List qP} {z : List UInt8} (hl : l.length <= 1099511627776) (R : Nat -> Int -> Prop) : Ev (fun n => Z6.c n l z (R n)) ↔ Ev (fun n => R n (zM (fun y => decide (y.1 = z)) l 0)) := by
 refine Ev.suc.trans ?_
 simp only [Z6.c, Z6.w]
 rw [qNI hl, Ev.s1 R]
def xX : List qP -> List qP -> Int -> Bool
 | _, [], t => decide (t <= 20000)
 | pre, y :: r, t => qCV y.1 && decide (1 <= y.2 /\ y.2 <= 4096) && !(pre.any fun z => decide (z.1 = y.1)) && xX (pre ++ [y]) r (t + y.2)
def zN (l : List qP) : Bool := decide (l.length <= 60) && xX [] l 0
theorem qE7 {α : Type} {l ys : List α} {x : Int} {y : α} (h : l.drop x.toNat = y :: ys) (h0 : 0 <= x) : l.take (x + 1).toNat = l.take x.toNat ++ [y] := by
 have hl : x.toNat < l.length := by
  rcases Nat.lt_or_ge x.toNat l.length with h' | h'
  ·exact h'
  ·rw [List.drop_eq_nil_of_le h'] at h; cases h
 rw [show (x + 1).toNat = x.toNat + 1 from by omega, List.take_succ_eq_append_getElem hl]
 congr 2
 have := List.getElem?_drop (xs := l) (i := x.toNat) (j := 0)
 rw [h] at this
 simp only [List.getElem?_cons_zero, Nat.add_zero, List.getElem?_eq_getElem hl, Option.some.injEq] at this
 exact this.symm
theorem qD4 {l : List qP} (hl : l.length <= 60) : ∀ (ys : List qP) (x t : Int), l.drop x.toNat = ys -> 0 <= x -> 0 <= t -> t <= 4096 * x -> ∀ (R : Nat -> Bool -> Prop),
  (Ev (fun n => Z1.l5 n l l l.length t x (fun y => R n (decide (y <= 20000))) (R n)) ↔ Ev (fun n => R n (xX (l.take x.toNat) ys t)))
 | [], x, t, h, h0, ht, ht', R => by
  have := qJ h h0
  refine Ev.suc.trans ?_
  simp (disch := omega) only [Z1.l5, Z1.l5.b, if_neg, decide_eq_true_eq, Ev.s1 R, xX]
 | y :: ys, x, t, h, h0, ht, ht', R => by
  obtain ⟨e1, e2, e3⟩ := qD h h0
  refine Ev.suc.trans ?_
  have hd : (List.drop 0 (List.take x.toNat l)).length <= 1099511627776 := by simp; omega
  simp (disch := omega) only [Z1.l5, Z1.l5.b, if_pos, decide_eq_true_eq, qF, e2, qI8, wM, Ev.iteI, Bool.not_eq_false', Ev.s1 R, xX]
  by_cases h1 : qCV y.1 = true
  ·by_cases h2 : 1 <= y.2 /\ y.2 <= 4096
   ·rw [if_pos h1, if_pos h2]
    simp (disch := omega) only [qHs, qGC hd, Ev.iteI, qG, ge_iff_le]
    rw [qD4 hl ys (x + 1) (t + y.2) e3 (by omega) (by omega) (by omega), Ev.s1 R, Ev.s1 R, qE7 h h0]
    have e := qAL (p := fun z : qP => decide (z.1 = y.1)) (l := List.take x.toNat l) (x := 0) (by omega)
    rw [List.drop_zero]
    by_cases h3 : 0 <= zM (fun z : qP => decide (z.1 = y.1)) (List.take x.toNat l) 0
    ·rw [if_pos h3, <- e]; simp [h1, h2, h3]
    ·rw [if_neg h3, <- e]; simp [h1, h2, h3]
   ·rw [if_pos h1, if_neg h2]; simp [h1, h2]
  ·rw [if_neg h1]; simp [h1]
theorem qIf {l : List qP} (R : Nat -> Bool -> Prop) : Ev (fun n => Z1.c n l (R n)) ↔ Ev (fun n => R n (zN l)) := by
 refine Ev.suc.trans ?_
 simp only [Z1.c, Z1.w, Ev.iteI, decide_eq_true_eq, zN]
 by_cases h : l.length <= 60
 ·rw [if_neg (by omega), qD4 h l 0 0 rfl (by omega) (by omega) (by omega) (fun n => R (n + 1)), Ev.s1 R]
  simp [h]
 ·rw [if_pos (by omega), Ev.s1 R]; simp [h]
theorem qDc {l : List qP} {t i : Int} {y : qP} (hl : l.length <= 60) (hi : rd l i.toNat = y) (hi0 : 0 <= i) (hi1 : i < (l.length : Int)) : ∀ (m : Nat) (k : Int), k + m = i -> 0 <= k -> ∀ (Kx : Nat -> List qP -> Int -> Int -> Prop) (Kr : Nat -> Bool -> Prop),
  (Ev (fun n => Z67.l10 n l t i k (Kx n) (Kr n)) ↔ if (((l.take i.toNat).drop k.toNat).any fun z => decide (z.1 = y.1)) = true then Ev (fun n => Kr n false) else Ev (fun n => Kx n l t i))
 | 0, k, h, h0, Kx, Kr => by
  refine Ev.suc.trans ?_
  simp (disch := omega) only [Z67.l10, Z67.l10.b, if_neg, decide_eq_true_eq, Ev.s3 Kx]
  rw [List.drop_eq_nil_of_le (by simp; omega)]
  simp
 | m + 1, k, h, h0, Kx, Kr => by
  refine Ev.suc.trans ?_
  have e : (l.take i.toNat).drop k.toNat = rd l k.toNat :: (l.take i.toNat).drop (k + 1).toNat := by
   have hk : k.toNat < (l.take i.toNat).length := by simp; omega
   rw [List.drop_eq_getElem_cons hk, show (k + 1).toNat = k.toNat + 1 from by omega]
   congr 1
   rw [List.getElem_take, rd, List.getD_eq_getElem?_getD, List.getElem?_eq_getElem (by omega)]; rfl
  simp (disch := omega) only [Z67.l10, Z67.l10.b, if_pos, decide_eq_true_eq, qF, hi, qG, Ev.iteI, beq_iff_eq, Ev.s1 Kr, e, List.any_cons, Bool.or_eq_true]
  rw [qDc hl hi hi0 hi1 m (k + 1) (by omega) (by omega), Ev.s1 Kr, Ev.s3 Kx]
  (repeat' split) <;> first | rfl | (exfalso; simp_all; done)
theorem qDb {l : List qP} (hl : l.length <= 60) : ∀ (ys : List qP) (x t : Int), l.drop x.toNat = ys -> 0 <= x -> 0 <= t -> t <= 4096 * x -> ∀ (R : Nat -> Bool -> Prop),
  (Ev (fun n => Z67.l5 n l t x (fun y => R n (decide (y <= 20000))) (R n)) ↔ Ev (fun n => R n (xX (l.take x.toNat) ys t)))
 | [], x, t, h, h0, ht, ht', R => by
  have := qJ h h0
  refine Ev.suc.trans ?_
  simp (disch := omega) only [Z67.l5, Z67.l5.b, if_neg, decide_eq_true_eq, Ev.s1 R, xX]
 | y :: ys, x, t, h, h0, ht, ht', R => by
  obtain ⟨e1, e2, e3⟩ := qD h h0
  refine Ev.suc.trans ?_
  simp (disch := omega) only [Z67.l5, Z67.l5.b, if_pos, decide_eq_true_eq, qF, e2, qJp, kY, Ev.iteI, Bool.not_eq_false', Bool.not_eq_true', decide_eq_false_iff_not, Ev.s1 R, xX, Z67.j3]
  by_cases h1 : qCV y.1 = true
  ·by_cases h2 : 1 <= y.2 /\ y.2 <= 4096
   ·rw [if_pos h1, if_neg (by omega), qDc hl e2 h0 e1 x.toNat 0 (by omega) (by omega), Ev.s1 R]
    simp (disch := omega) only [qF, e2, qG]
    rw [qDb hl ys (x + 1) (t + y.2) e3 (by omega) (by omega) (by omega) (fun n => R (n + 1)), Ev.s1 R, qE7 h h0, show (0 : Int).toNat = 0 from rfl, List.drop_zero]
    split
    ·rename_i h3; simp [h1, h2, h3]
    ·rename_i h3; simp only [Bool.not_eq_true] at h3; simp [h1, h2, h3]
   ·rw [if_pos h1, if_pos h2]; simp [h1, h2]
  ·rw [if_neg h1]; simp [h1]
theorem qDd {l : List qP} (R : Nat -> Bool -> Prop) : Ev (fun n => Z67.c n l (R n)) ↔ Ev (fun n => R n (zN l)) := by
 refine Ev.suc.trans ?_
 simp only [Z67.c, Z67.w, Ev.iteI, decide_eq_true_eq, zN]
 by_cases h : l.length <= 60
 ·rw [if_neg (by omega), qDb h l 0 0 rfl (by omega) (by omega) (by omega) (fun n => R (n + 1)), Ev.s1 R]
  simp [h]
 ·rw [if_pos (by omega), Ev.s1 R]; simp [h]
def yD (d : List qP) (x : qB) (kw : List Int) : Int :=
 if x.1 = 1 /\ kw.length = 0 /\ 0 <= x.2.1 /\ x.2.1 <= (d.length : Int) - 1 then (rd d x.2.1.toNat).2
 else if x.1 = 2 /\ kw.length = 0 /\ vS x.2.2.2.2.1 x.2.2.2.2.2.1 = true then x.2.2.2.2.1
 else if x.1 = 3 /\ 1 < kw.length then kw.sum
 else if kw.length ≠ 1 then -1
 else if x.1 = 4 /\ 0 <= x.2.2.2.1 /\ x.2.2.2.1 <= x.2.2.1 /\ x.2.2.1 < rd kw 0 then x.2.2.1 - x.2.2.2.1 + 1
 else if (x.1 = 5 \/ x.1 = 6) /\ 0 <= x.2.2.1 /\ x.2.2.1 <= 4096 then rd kw 0 + x.2.2.1
 else if (x.1 = 7 \/ x.1 = 8) /\ 0 <= x.2.2.1 /\ x.2.2.1 <= 4096 then rd kw 0
 else if x.1 = 9 /\ 1 <= x.2.2.1 /\ x.2.2.1 <= 4096 then rd kw 0 * x.2.2.1
 else -1
theorem qPP {a b : Int} (h1 : 0 <= a) (h2 : a <= 8192) (h3 : 0 <= b) (h4 : b <= 4096) : 0 <= a * b /\ a * b <= 33554432 :=
 ⟨Int.mul_nonneg h1 h3, Int.le_trans (Int.mul_le_mul h2 h4 h3 (by decide)) (by decide)⟩
theorem qGV {kw : List Int} (hl : kw.length <= 4096) (hk : ∀ w ∈ kw, 0 <= w /\ w <= 4096) : ∀ (ys : List Int) (x s : Int), kw.drop x.toNat = ys -> 0 <= x -> 0 <= s -> s <= 4096 * x -> ∀ (Kx : Nat -> Int -> Prop),
  (Ev (fun n => Z5.l11 n kw kw.length s x (Kx n)) ↔ Ev (fun n => Kx n (s + ys.sum)))
 | [], x, s, h, h0, hs, hs', Kx => by
  have := qJ h h0
  refine Ev.suc.trans ?_
  simp (disch := omega) only [Z5.l11, Z5.l11.b, if_neg, decide_eq_true_eq, Ev.s1 Kx, List.sum_nil, Int.add_zero]
 | y :: ys, x, s, h, h0, hs, hs', Kx => by
  obtain ⟨e1, e2, e3⟩ := qD h h0
  have hy : y ∈ kw := by
   have : y ∈ kw.drop x.toNat := by rw [h]; exact List.mem_cons_self
   exact List.mem_of_mem_drop this
  have hy' := hk y hy
  refine Ev.suc.trans ?_
  simp (disch := omega) only [Z5.l11, Z5.l11.b, if_pos, decide_eq_true_eq, qF, e2, qG]
  rw [qGV hl hk ys (x + 1) (s + y) e3 (by omega) (by omega) (by omega), Ev.s1 Kx]
  refine jN ?_
  rw [List.sum_cons]; omega
theorem qIt {x : qB} {f : Int} {b : Bool} (K : Nat -> Int -> Prop) (S : Nat -> Prop) :
  Ev (fun n => Z5.q21 n x f b (K n) (S n)) ↔ if b = true then Ev (fun n => K n (IntKind.wrap .i64 (f + x.2.2.1))) else
   if (x.1 = 7 \/ x.1 = 8) /\ 0 <= x.2.2.1 /\ x.2.2.1 <= 4096 then Ev (fun n => K n f) else if x.1 = 9 /\ 1 <= x.2.2.1 /\ x.2.2.1 <= 4096 then Ev (fun n => K n (IntKind.wrap .i64 (f * x.2.2.1))) else Ev S := by
 refine Ev.suc.trans ?_
 simp only [Z5.q21, Z5.q21.b, Z5.j0, wM, Ev.iteI, decide_eq_true_eq, decide_eq_false_iff_not, Ev.s1 K, Ev.s0 S, Bool.false_eq_true, if_false]
 (repeat' split) <;> first | rfl | (exfalso; omega)
theorem qKs {x : qB} {kw : List Int} {b : Bool} (hl : kw.length <= 4096) (hk : ∀ w ∈ kw, 0 <= w /\ w <= 4096) (hb : b = true ↔ x.1 = 3 /\ 1 < kw.length) (K : Nat -> Int -> Prop) (S : Nat -> Prop) :
  Ev (fun n => Z5.q9 n x kw (rd kw 0) b (K n) (S n)) ↔ if x.1 = 3 /\ 1 < kw.length then Ev (fun n => K n kw.sum) else if kw.length ≠ 1 then Ev (fun n => K n (-1)) else
   if x.1 = 4 /\ 0 <= x.2.2.2.1 /\ x.2.2.2.1 <= x.2.2.1 /\ x.2.2.1 < rd kw 0 then Ev (fun n => K n (x.2.2.1 - x.2.2.2.1 + 1))
   else if (x.1 = 5 \/ x.1 = 6) /\ 0 <= x.2.2.1 /\ x.2.2.1 <= 4096 then Ev (fun n => K n (rd kw 0 + x.2.2.1))
   else if (x.1 = 7 \/ x.1 = 8) /\ 0 <= x.2.2.1 /\ x.2.2.1 <= 4096 then Ev (fun n => K n (rd kw 0))
   else if x.1 = 9 /\ 1 <= x.2.2.1 /\ x.2.2.1 <= 4096 then Ev (fun n => K n (rd kw 0 * x.2.2.1)) else Ev S := by
 refine Ev.suc.trans ?_
 simp only [Z5.q9, Z5.q9.b, Z5.j1, Ev.iteI, hb]
 by_cases h3 : x.1 = 3 /\ 1 < kw.length
 ·rw [if_pos h3, if_pos h3, qGV hl hk kw 0 0 rfl (by omega) (by omega) (by omega), Ev.s1 K, Int.zero_add]
 rw [if_neg h3, if_neg h3]
 by_cases h1 : kw.length = 1
 ·have hf : 0 <= rd kw 0 /\ rd kw 0 <= 4096 := by
   match kw, h1, hk with
   | [w], _, hk => exact hk w List.mem_cons_self
  have h1' : (kw.length : Int) = 1 := by omega
  rw [if_neg (c := kw.length ≠ 1) (by omega)]
  simp only [h1', decide_true, Bool.not_true, Bool.false_eq_true, if_false]
  simp only [qIt, wM, Ev.iteI, decide_eq_true_eq, decide_eq_false_iff_not, Ev.s1 K, Ev.s0 S, Bool.false_eq_true, if_false, ge_iff_le]
  by_cases h4 : x.1 = 4
  ·simp only [h4, true_and, if_true, show ¬ (4 : Int) = 5 from by decide, show ¬ (4 : Int) = 6 from by decide, show ¬ (4 : Int) = 7 from by decide, show ¬ (4 : Int) = 8 from by decide, show ¬ (4 : Int) = 9 from by decide, or_self, false_and, if_false, not_false_eq_true]
   by_cases g1 : 0 <= x.2.2.2.1
   ·by_cases g2 : x.2.2.2.1 <= x.2.2.1
    ·by_cases g3 : x.2.2.1 < rd kw 0
     ·simp (disch := omega) only [g1, g2, g3, and_self, if_true, qG, decide_true]
     ·simp only [g1, g2, g3, and_false, if_true, if_false, decide_false, Bool.false_eq_true]
    ·simp only [g1, g2, false_and, and_false, if_true, if_false]
   ·simp only [g1, false_and, if_false]
  ·simp only [h4, false_and, if_false]
   by_cases h5 : (x.1 = 5 \/ x.1 = 6) /\ 0 <= x.2.2.1 /\ x.2.2.1 <= 4096
   ·have e : IntKind.wrap .i64 (rd kw 0 + x.2.2.1) = rd kw 0 + x.2.2.1 := qG (by omega) (by omega)
    rw [if_pos h5, e]
    rcases h5 with ⟨h5 | h5, h6⟩
    ·simp only [h5, h6, not_true, if_false, if_true, and_self]
    ·simp only [h5, h6, show ¬ (6 : Int) = 5 from by decide, not_false_eq_true, if_true, and_self]
   ·rw [if_neg h5]
    have e : 1 <= x.2.2.1 /\ x.2.2.1 <= 4096 -> IntKind.wrap .i64 (rd kw 0 * x.2.2.1) = rd kw 0 * x.2.2.1 := fun h => by
     have := qPP hf.1 (by omega) (show 0 <= x.2.2.1 by omega) h.2
     exact qG (by omega) (by omega)
    (repeat' split) <;> first | rfl | (exfalso; omega) | (exfalso; simp_all; done) | (rw [e (by omega)])
 ·have h1' : ¬ (kw.length : Int) = 1 := by omega
  simp only [h1, h1', ne_eq, not_false_eq_true, if_true, decide_false, Bool.not_false, Ev.s1 K]
theorem qEh {x : qB} {d : List qP} {kw : List Int} {b : Bool} (hl : kw.length <= 4096) (hk : ∀ w ∈ kw, 0 <= w /\ w <= 4096) (hb : b = true ↔ x.1 = 1 /\ kw.length = 0 /\ 0 <= x.2.1 /\ x.2.1 <= (d.length : Int) - 1) (R : Nat -> Int -> Prop) :
  Ev (fun n => Z5.q5 n x d kw (rd kw 0) b (R n) (R n (-1))) ↔ Ev (fun n => R n (yD d x kw)) := by
 refine Ev.suc.trans ?_
 simp only [Z5.q5, Z5.q5.b, Z5.j2, Ev.iteI, yD]
 by_cases h1 : x.1 = 1 /\ kw.length = 0 /\ 0 <= x.2.1 /\ x.2.1 <= (d.length : Int) - 1
 ·simp (disch := omega) only [hb.2 h1, if_true, qF, Ev.s1 R]
  rw [if_pos h1]
 have hb' : ¬ b = true := fun h => h1 (hb.1 h)
 rw [if_neg hb', if_neg h1]
 have q9 : ∀ (c : Bool), (c = true ↔ x.1 = 3 /\ 1 < kw.length) -> ((Ev fun n => Z5.q9 n x kw (rd kw 0) c (R (n + 1)) (R (n + 1) (-1))) ↔ Ev (fun n => R n (if x.1 = 3 /\ 1 < kw.length then kw.sum
   else if kw.length ≠ 1 then -1
   else if x.1 = 4 /\ 0 <= x.2.2.2.1 /\ x.2.2.2.1 <= x.2.2.1 /\ x.2.2.1 < rd kw 0 then x.2.2.1 - x.2.2.2.1 + 1
   else if (x.1 = 5 \/ x.1 = 6) /\ 0 <= x.2.2.1 /\ x.2.2.1 <= 4096 then rd kw 0 + x.2.2.1
   else if (x.1 = 7 \/ x.1 = 8) /\ 0 <= x.2.2.1 /\ x.2.2.1 <= 4096 then rd kw 0
   else if x.1 = 9 /\ 1 <= x.2.2.1 /\ x.2.2.1 <= 4096 then rd kw 0 * x.2.2.1
   else -1))) := fun c hc => by
  rw [qKs hl hk hc (fun n => R (n + 1)) (fun n => R (n + 1) (-1))]
  simp only [Ev.s1 R]
  (repeat' split) <;> first | rfl | (exfalso; omega)
 simp only [decide_eq_true_eq, Bool.false_eq_true, if_false, qJw, Ev.iteI, Ev.s1 R]
 have f3 : ¬ (x.1 = 3 /\ 1 < kw.length) -> (false = true ↔ x.1 = 3 /\ 1 < kw.length) := fun h => iff_of_false Bool.false_ne_true h
 by_cases h2 : x.1 = 2
 ·have h3 : ¬ x.1 = 3 := by omega
  have h3' : ¬ (x.1 = 3 /\ 1 < kw.length) := by omega
  rw [if_pos h2]
  by_cases h4 : kw.length = 0
  ·have h4' : (kw.length : Int) = 0 := by omega
   rw [if_pos h4']
   by_cases h5 : vS x.2.2.2.2.1 x.2.2.2.2.2.1 = true
   ·rw [if_pos h5, if_pos ⟨h2, h4, h5⟩]
   ·rw [if_neg h5, if_neg h3, q9 false (f3 h3'), if_neg (c := x.1 = 2 /\ kw.length = 0 /\ vS x.2.2.2.2.1 x.2.2.2.2.2.1 = true) (fun h => h5 h.2.2)]
  ·have h4' : ¬ (kw.length : Int) = 0 := by omega
   rw [if_neg h4', if_neg h3, q9 false (f3 h3'), if_neg (c := x.1 = 2 /\ kw.length = 0 /\ vS x.2.2.2.2.1 x.2.2.2.2.2.1 = true) (fun h => h4 h.2.1)]
 ·rw [if_neg h2, if_neg (c := x.1 = 2 /\ kw.length = 0 /\ vS x.2.2.2.2.1 x.2.2.2.2.2.1 = true) (fun h => h2 h.1)]
  by_cases h3 : x.1 = 3
  ·rw [if_pos h3, q9 _ (by rw [decide_eq_true_eq]; omega)]
  ·rw [if_neg h3, q9 false (f3 (fun h => h3 h.1))]
theorem qKt {x : qB} {d : List qP} {kw : List Int} (hd : d.length <= 1099511627776) (hl : kw.length <= 4096) (hk : ∀ w ∈ kw, 0 <= w /\ w <= 4096) (R : Nat -> Int -> Prop) :
  Ev (fun n => Z5.c n x d kw (R n)) ↔ Ev (fun n => R n (yD d x kw)) := by
 refine Ev.suc.trans ?_
 have key : ∀ (f : Int), f = rd kw 0 -> ((Ev fun n => Z5.j3 (R (n + 1)) x d kw (Z5.q5 n) n f) ↔ Ev (fun n => R n (yD d x kw))) := by
  rintro f rfl
  simp (disch := omega) only [Z5.j3, Ev.iteI, decide_eq_true_eq, wM, qG]
  by_cases h1 : x.1 = 1
  ·by_cases h2 : (kw.length : Int) = 0
   ·rw [if_pos h1, if_pos h2, qEh hl hk (by rw [decide_eq_true_eq]; omega) (fun n => R (n + 1)), Ev.s1 R]
   ·rw [if_pos h1, if_neg h2, qEh hl hk (iff_of_false Bool.false_ne_true (by omega)) (fun n => R (n + 1)), Ev.s1 R]
  ·rw [if_neg h1, qEh hl hk (iff_of_false Bool.false_ne_true (by omega)) (fun n => R (n + 1)), Ev.s1 R]
 simp only [Z5.c, Z5.w, Ev.iteI, decide_eq_true_eq]
 by_cases h : (kw.length : Int) > 0
 ·rw [if_pos h]
  simp (disch := omega) only [kL]
  exact key _ rfl
 ·rw [if_neg h]
  refine key 0 ?_
  match kw, h with
  | [], _ => rfl
  | _ :: _, h => simp at h
def wK (x : qB) : Bool := decide (((4 <= x.1 /\ x.1 <= 9) \/ x.2.2.1 = 0) /\ (x.1 = 4 \/ x.2.2.2.1 = 0) /\ (x.1 = 1 \/ x.2.1 = 0) /\ (x.1 = 2 \/ (x.2.2.2.2.1 = 0 /\ x.2.2.2.2.2.1.length = 0)))
theorem qKD {x : qB} {b : Bool} (R : Nat -> Bool -> Prop) (S : Nat -> qB -> Prop) :
  Ev (fun n => Z4.q3 n x b (R n) (S n)) ↔ if b = true then Ev (fun n => R n false) else Ev (fun n => S n x) := by
 refine Ev.suc.trans ?_
 simp only [Z4.q3, Z4.q3.b, Ev.iteI, Ev.s1 R, Ev.s1 S]
theorem qHd {x : qB} {b : Bool} (hb : b = true ↔ (4 <= x.1 /\ x.1 <= 9)) (R : Nat -> Bool -> Prop) :
  Ev (fun n => Z4.q2 n x b (R n)) ↔ Ev (fun n => R n (wK x)) := by
 refine Ev.suc.trans ?_
 have hb' : b = false ↔ ¬ (4 <= x.1 /\ x.1 <= 9) := by rw [<- hb]; simp
 simp only [Z4.q2, Z4.q2.b, Z4.j0, qKD, Ev.iteI, Ev.s1 R, Bool.not_eq_true', Bool.not_eq_false', decide_eq_true_eq, decide_eq_false_iff_not, Bool.false_eq_true, if_false, if_true, hb']
 (repeat' split) <;> first
  | (refine jN ?_; symm; rw [wK, decide_eq_false_iff_not]; omega)
  | (refine jN ?_; symm; rw [wK, decide_eq_true_eq]; omega)
  | (refine jN ?_; rw [wK, decide_eq_decide]; omega)
theorem qKE {x : qB} (R : Nat -> Bool -> Prop) : Ev (fun n => Z4.c n x (R n)) ↔ Ev (fun n => R n (wK x)) := by
 refine Ev.suc.trans ?_
 simp only [Z4.c, Z4.w, Ev.iteI, decide_eq_true_eq, ge_iff_le]
 split
 ·rename_i h; rw [qHd (by rw [decide_eq_true_eq]; omega) (fun n => R (n + 1)), Ev.s1 R]
 ·rename_i h; rw [qHd (by simp; omega) (fun n => R (n + 1)), Ev.s1 R]
def vB (i : Int) (ks : List Int) : Bool := ks.all fun k => decide (0 <= k /\ k <= i - 1)
theorem kI {i y : Int} {ys : List Int} : vB i (y :: ys) = true ↔ (0 <= y /\ y <= i - 1) /\ vB i ys = true := by
 rw [vB, vB, List.all_cons, Bool.and_eq_true, decide_eq_true_eq]
def kZ (d : List qP) (x : qB) : Bool := decide ((x.1 = 1 /\ x.2.2.2.2.2.2.length = 0 /\ 0 <= x.2.1 /\ x.2.1 <= (d.length : Int) - 1) \/ (x.1 = 2 /\ x.2.2.2.2.2.2.length = 0 /\ vS x.2.2.2.2.1 x.2.2.2.2.2.1 = true) \/ (x.1 = 3 /\ 2 <= x.2.2.2.2.2.2.length) \/ (4 <= x.1 /\ x.1 <= 9 /\ x.2.2.2.2.2.2.length = 1))
theorem qI6 {a : Int} {l : List Int} (R : Nat -> Bool -> Prop) : Ev (fun n => Z80.c n a l (R n)) ↔ Ev (fun n => R n (decide (a = 0 /\ l.length = 0))) := by
 refine Ev.suc.trans ?_
 simp only [Z80.c, Z80.w, Ev.iteI, decide_eq_true_eq, Ev.s1 R]
 split
 ·refine jN ?_; rw [decide_eq_decide]; omega
 ·refine jN ?_; symm; rw [decide_eq_false_iff_not]; omega
theorem qHn {a : Int} (R : Nat -> Bool -> Prop) : Ev (fun n => Z81.c n a (R n)) ↔ Ev (fun n => R n (decide (4 <= a /\ a <= 9))) := by
 refine Ev.suc.trans ?_
 simp only [Z81.c, Z81.w, kY, Ev.s1 R]
theorem qJE {d : List qP} {i a b c e f : Int} {w ks : List Int} (hl : ks.length <= 1099511627776) (hi0 : 0 <= i) (hi : i <= 1048576) : ∀ (ys : List Int) (x : Int), ks.drop x.toNat = ys -> 0 <= x ->
  ∀ (Kx : Nat -> List qP -> Int -> Int -> Int -> Int -> Int -> List Int -> List Int -> Prop) (Kr : Nat -> Bool -> Prop),
  (Ev (fun n => Z79.l2 n d i a b c e f w ks x (Kx n) (Kr n)) ↔ if vB i ys = true then Ev (fun n => Kx n d a b c e f w ks) else Ev (fun n => Kr n false))
 | [], x, h, h0, Kx, Kr => by
  have := qJ h h0
  refine Ev.suc.trans ?_
  simp (disch := omega) only [Z79.l2, Z79.l2.b, if_neg, decide_eq_true_eq, Ev.s8 Kx, vB, List.all_nil, if_true]
 | y :: ys, x, h, h0, Kx, Kr => by
  obtain ⟨e1, e2, e3⟩ := qD h h0
  refine Ev.suc.trans ?_
  simp (disch := omega) only [Z79.l2, Z79.l2.b, if_pos, decide_eq_true_eq, decide_eq_false_iff_not, Bool.not_eq_true', qF, e2, qG, kY, Ev.iteI, Ev.s1 Kr]
  rw [qJE hl hi0 hi ys (x + 1) e3 (by omega), Ev.s1 Kr, Ev.s8 Kx]
  simp only [kI]
  by_cases h1 : 0 <= y /\ y <= i - 1
  ·rw [if_neg (fun h => h h1)]
   simp only [h1, true_and, and_self]
  ·rw [if_pos h1, if_neg (fun h => h1 h.1)]
theorem qMo {d : List qP} {g : Bool} {a b c e f : Int} {w ks : List Int} (R : Nat -> Bool -> Prop) (S : Nat -> List qP -> Int -> Int -> Int -> Int -> Int -> List Int -> List Int -> Prop) :
  Ev (fun n => Z79.q7 n d g a b c e f w ks (R n) (S n)) ↔ if g = true then Ev (fun n => R n false) else Ev (fun n => S n d a b c e f w ks) := by
 refine Ev.suc.trans ?_
 simp only [Z79.q7, Z79.q7.b, Ev.iteI, Ev.s1 R, Ev.s8 S]
theorem qMn {d : List qP} {a b c e f : Int} {w ks : List Int} (hd : d.length <= 1099511627776) (hw : Wd w) (R : Nat -> Bool -> Prop) :
  Ev (fun n => Z79.q8 n d a b c e f w ks (R n)) ↔ Ev (fun n => R n (kZ d (a, b, c, e, f, w, ks))) := by
 refine Ev.suc.trans ?_
 simp (disch := first | assumption | omega) only [Z79.q8, Z79.q8.b, Ev.iteI, decide_eq_true_eq, kY, qHn, qIH, qG, Ev.s1 R]
 have key : ∀ (b' : Bool), (b' = true ↔ kZ d (a, b, c, e, f, w, ks) = true) -> ((Ev fun n => R n b') ↔ Ev fun n => R n (kZ d (a, b, c, e, f, w, ks))) := fun b' h => by
  rw [Bool.eq_iff_iff.2 h]
 simp only [kZ, decide_eq_true_eq] at key
 (repeat' split) <;> refine key _ ?_ <;> first
  | (simp only [decide_eq_true_eq, Bool.false_eq_true, false_iff]; omega)
  | (simp only [decide_eq_true_eq, Bool.false_eq_true, false_iff]; constructor <;> intro h <;> simp_all <;> omega)
  | (simp_all; done) | (simp_all; omega)
theorem qMp {d : List qP} {i a b c e f : Int} {w ks : List Int} (hd : d.length <= 1099511627776) (hw : Wd w) (hl : ks.length <= 1099511627776) (hi0 : 0 <= i) (hi : i <= 1048576) (R : Nat -> Bool -> Prop) :
  Ev (fun n => Z79.c n d a b c e f w ks i (R n)) ↔ Ev (fun n => R n (vB i ks && wK (a, b, c, e, f, w, ks) && kZ d (a, b, c, e, f, w, ks))) := by
 refine Ev.suc.trans ?_
 simp only [Z79.c, Z79.w]
 rw [qJE hl hi0 hi ks 0 rfl (by omega)]
 by_cases hk : vB i ks = true
 ·rw [if_pos hk, hk, Bool.true_and]
  simp only [Ev.iteI, Bool.not_eq_true', Bool.not_eq_false', decide_eq_true_eq, decide_eq_false_iff_not, qI6, qHn, qMo, qMn hd hw, Ev.s1 R, Bool.false_eq_true, if_false, if_true]
  have T : wK (a, b, c, e, f, w, ks) = true -> ((Ev fun n => R n (kZ d (a, b, c, e, f, w, ks))) ↔ Ev fun n => R n (wK (a, b, c, e, f, w, ks) && kZ d (a, b, c, e, f, w, ks))) := fun h => by rw [h, Bool.true_and]
  have F : wK (a, b, c, e, f, w, ks) = false -> ((Ev fun n => R n false) ↔ Ev fun n => R n (wK (a, b, c, e, f, w, ks) && kZ d (a, b, c, e, f, w, ks))) := fun h => by rw [h, Bool.false_and]
  simp only [wK, decide_eq_true_eq, decide_eq_false_iff_not] at T F
  (repeat' split) <;> first
   | (refine T ?_; omega)
   | (refine F ?_; omega)
 ·rw [if_neg hk, show vB i ks = false from by simpa using hk, Bool.false_and, Bool.false_and, Ev.s1 R]
def WOk (l : List Int) : Prop := ∀ w ∈ l, 1 <= w /\ w <= 4096
theorem WOk.cons {y : Int} {r : List Int} (h : WOk (y :: r)) : (1 <= y /\ y <= 4096) /\ WOk r := ⟨h y List.mem_cons_self, fun w hw => h w (List.mem_cons_of_mem _ hw)⟩
def wO (s : Int) : List Int -> Int
 | [] => s
 | y :: r => wO (if s + y < 8192 then s + y else 8192) r
theorem qG5 : ∀ {l : List Int}, WOk l -> (l.length : Int) <= l.sum
 | [], _ => by simp
 | y :: r, h => by
  have := qG5 h.cons.2
  have := h.cons.1
  rw [List.sum_cons, List.length_cons]; omega
theorem qD9 : ∀ {r : List Int}, WOk r -> wO 8192 r = 8192
 | [], _ => rfl
 | y :: r, h => by
  have := h.cons.1
  rw [wO, if_neg (by omega), qD9 h.cons.2]
theorem qDf : ∀ {l : List Int} {s : Int}, 0 <= s -> s <= 8192 -> WOk l -> wO s l = if s + l.sum < 8192 then s + l.sum else 8192
 | [], s, h0, h1, hw => by
  rw [wO, List.sum_nil]; split <;> omega
 | y :: r, s, h0, h1, hw => by
  have hy := hw.cons.1
  have hr := hw.cons.2
  have hs := qG5 hr
  rw [wO, List.sum_cons]
  by_cases h : s + y < 8192
  ·rw [if_pos h, qDf (by omega) (by omega) hr]
   simp only [Int.add_assoc]
  ·rw [if_neg h, qD9 hr, if_neg (by omega)]
def acc (w : Int) : Option Int := if 1 <= w /\ w <= 4096 then some w else none
def qCg (d : List qP) (x : qB) (s : Int) : Int :=
 if x.1 = 1 then (rd d x.2.1.toNat).2
 else if x.1 = 2 then x.2.2.2.2.1
 else if x.1 = 4 then (if x.2.2.2.1 < 0 \/ x.2.2.1 < x.2.2.2.1 \/ x.2.2.1 >= s then -1 else x.2.2.1 - x.2.2.2.1 + 1)
 else if x.1 = 5 \/ x.1 = 6 then (if 0 <= x.2.2.1 /\ x.2.2.1 <= 4096 then s + x.2.2.1 else -1)
 else if x.1 = 7 \/ x.1 = 8 then (if 0 <= x.2.2.1 /\ x.2.2.1 <= 4096 then s else -1)
 else if x.1 = 9 then (if 1 <= x.2.2.1 /\ x.2.2.1 <= 4096 then s * x.2.2.1 else -1)
 else s
theorem qKF {d : List qP} {x : qB} {w : Int} (h1 : 4 <= x.1) (h2 : x.1 <= 9) : yD d x [w] = qCg d x w := by
 have e : rd [w] 0 = w := rfl
 have e1 : [w].length = 1 := rfl
 rw [yD, e, e1, if_neg (by omega), if_neg (by omega), if_neg (by omega), if_neg (by omega), qCg, if_neg (c := x.1 = 1) (by omega), if_neg (c := x.1 = 2) (by omega)]
 have h : x.1 = 4 \/ x.1 = 5 \/ x.1 = 6 \/ x.1 = 7 \/ x.1 = 8 \/ x.1 = 9 := by omega
 rcases h with h | h | h | h | h | h
 ·rw [if_pos (c := x.1 = 4) h]
  by_cases c : 0 <= x.2.2.2.1 /\ x.2.2.2.1 <= x.2.2.1 /\ x.2.2.1 < w
  ·rw [if_pos ⟨h, c⟩, if_neg (by omega)]
  ·rw [if_neg (fun hh => c hh.2), if_neg (by omega), if_neg (by omega), if_neg (by omega), if_pos (by omega)]
 all_goals
  rw [if_neg (c := x.1 = 4) (by omega), if_neg (by omega)]
 ·rw [if_pos (c := x.1 = 5 \/ x.1 = 6) (by omega)]
  by_cases c : 0 <= x.2.2.1 /\ x.2.2.1 <= 4096
  ·rw [if_pos ⟨Or.inl h, c⟩, if_pos c]
  ·rw [if_neg (fun hh => c hh.2), if_neg (by omega), if_neg (by omega), if_neg c]
 ·rw [if_pos (c := x.1 = 5 \/ x.1 = 6) (by omega)]
  by_cases c : 0 <= x.2.2.1 /\ x.2.2.1 <= 4096
  ·rw [if_pos ⟨Or.inr h, c⟩, if_pos c]
  ·rw [if_neg (fun hh => c hh.2), if_neg (by omega), if_neg (by omega), if_neg c]
 ·rw [if_neg (c := x.1 = 5 \/ x.1 = 6) (by omega), if_neg (by omega), if_pos (c := x.1 = 7 \/ x.1 = 8) (by omega)]
  by_cases c : 0 <= x.2.2.1 /\ x.2.2.1 <= 4096
  ·rw [if_pos ⟨Or.inl h, c⟩, if_pos c]
  ·rw [if_neg (fun hh => c hh.2), if_neg (by omega), if_neg c]
 ·rw [if_neg (c := x.1 = 5 \/ x.1 = 6) (by omega), if_neg (by omega), if_pos (c := x.1 = 7 \/ x.1 = 8) (by omega)]
  by_cases c : 0 <= x.2.2.1 /\ x.2.2.1 <= 4096
  ·rw [if_pos ⟨Or.inr h, c⟩, if_pos c]
  ·rw [if_neg (fun hh => c hh.2), if_neg (by omega), if_neg c]
 ·rw [if_neg (c := x.1 = 5 \/ x.1 = 6) (by omega), if_neg (by omega), if_neg (by omega), if_neg (c := x.1 = 7 \/ x.1 = 8) (by omega), if_pos (c := x.1 = 9) h]
  by_cases c : 1 <= x.2.2.1 /\ x.2.2.1 <= 4096
  ·rw [if_pos ⟨h, c⟩, if_pos c]
  ·rw [if_neg (fun hh => c hh.2), if_neg c]
theorem qL2 {d : List qP} {x : qB} {kw : List Int} (hw : WOk kw) (hl : kw.length = x.2.2.2.2.2.2.length) :
  (if x.2.2.2.2.2.2.length <= 4096 then acc (yD d x kw) else none) = if kZ d x = true then acc (qCg d x (wO 0 kw)) else none := by
 rw [<- hl]
 rw [qDf (by omega) (by omega) hw, Int.zero_add]
 have hs := qG5 hw
 by_cases hk : kZ d x = true
 ·rw [if_pos hk]
  rw [kZ, decide_eq_true_eq, <- hl] at hk
  rcases hk with ⟨h1, h2, h3, h4⟩ | ⟨h1, h2, h3⟩ | ⟨h1, h2⟩ | ⟨h1, h2, h3⟩
  ·rw [if_pos (by omega), yD, if_pos ⟨h1, h2, h3, h4⟩, qCg, if_pos h1]
  ·rw [if_pos (by omega), yD, if_neg (by omega), if_pos ⟨h1, h2, h3⟩, qCg, if_neg (by omega), if_pos h1]
  ·have hn : yD d x kw = kw.sum := by rw [yD, if_neg (by omega), if_neg (by omega), if_pos (by omega)]
   have hq : ∀ s, qCg d x s = s := fun s => by rw [qCg, if_neg (by omega), if_neg (by omega), if_neg (by omega), if_neg (by omega), if_neg (by omega), if_neg (by omega)]
   rw [hn, hq]
   unfold acc
   (repeat' split) <;> first | rfl | (exfalso; omega)
  ·rw [if_pos (by omega)]
   match kw, h3, hw with
   | [w], _, hw =>
    have h := hw w List.mem_cons_self
    have hs : (if [w].sum < 8192 then [w].sum else 8192) = w := by
     simp only [List.sum_cons, List.sum_nil, Int.add_zero]; rw [if_pos (by omega)]
    rw [hs]
    have hn := qKF (d := d) (x := x) (w := w) h1 h2
    rw [hn]
 ·rw [if_neg hk]
  rw [kZ, decide_eq_true_eq, <- hl] at hk
  have : yD d x kw = -1 := by
   rw [yD, if_neg (by omega), if_neg (by rintro ⟨h1, h2, h3⟩; exact hk (Or.inr (Or.inl ⟨h1, h2, h3⟩))), if_neg (by omega)]
   by_cases h1 : kw.length ≠ 1
   ·rw [if_pos h1]
   ·rw [if_neg h1, if_neg (by omega), if_neg (by omega), if_neg (by omega), if_neg (by omega)]
  rw [this]
  split <;> rfl
def qAF (d : List qP) (x : qB) (wide : List Int) : Option Int :=
 if vB wide.length x.2.2.2.2.2.2 = true /\ wK x = true /\ kZ d x = true then acc (qCg d x (wO 0 (x.2.2.2.2.2.2.map fun k => rd wide k.toNat))) else none
def xC (u : List Bool) : List Int -> List Bool
 | [] => u
 | k :: r => xC (u.set k.toNat true) r
theorem qAb : ∀ {ks : List Int} {u : List Bool}, (xC u ks).length = u.length
 | [], u => rfl
 | k :: r, u => by rw [xC, qAb, List.length_set]
def jP (d : List qP) : List qB -> List Int -> List Bool -> Option (List Int × List Bool)
 | [], wide, used => some (wide, used)
 | x :: r, wide, used => match qAF d x wide with
  | some w => jP d r (wide ++ [w]) (xC used x.2.2.2.2.2.2)
  | none => none
theorem qLh {l : List Int} {k : Int} (h0 : 0 <= k) (h1 : k < (l.length : Int)) : rd l k.toNat ∈ l := by
 rw [rd, List.getD_eq_getElem?_getD, List.getElem?_eq_getElem (by omega)]
 exact List.getElem_mem _
theorem qMY {α : Type} [Inhabited α] {a b : List α} {k : Nat} (h : k < a.length) : rd (a ++ b) k = rd a k := by
 rw [rd, rd, List.getD_eq_getElem?_getD, List.getD_eq_getElem?_getD, List.getElem?_append_left h]
theorem qEA {wide ks : List Int} (hw : WOk wide) (hk : vB wide.length ks = true) : WOk (ks.map fun k => rd wide k.toNat) := by
 intro w hw'
 obtain ⟨k, hk', rfl⟩ := List.mem_map.1 hw'
 rw [vB, List.all_eq_true] at hk
 have := hk k hk'
 rw [decide_eq_true_eq] at this
 exact hw _ (qLh this.1 (by omega))
theorem qK9 {w v : Int} (h : acc w = some v) : v = w /\ 1 <= w /\ w <= 4096 := by
 unfold acc at h
 split at h
 ·rename_i hh; cases h; exact ⟨rfl, hh⟩
 ·cases h
theorem qKx {d : List qP} {x : qB} {wide : List Int} {w : Int} (h : qAF d x wide = some w) : 1 <= w /\ w <= 4096 := by
 unfold qAF at h
 split at h
 ·obtain ⟨rfl, h1⟩ := qK9 h; exact h1
 ·cases h
theorem WOk.app {wide : List Int} {w : Int} (h : WOk wide) (hw : 1 <= w /\ w <= 4096) : WOk (wide ++ [w]) := by
 intro v hv
 rcases List.mem_append.1 hv with hv | hv
 ·exact h v hv
 ·rw [List.mem_singleton] at hv; subst hv; exact hw
theorem yN {d : List qP} : ∀ {ys : List qB} {wide : List Int} {used : List Bool} {r : List Int × List Bool}, WOk wide -> jP d ys wide used = some r -> WOk r.1 /\ r.1.length = wide.length + ys.length /\ r.2.length = used.length
 | [], wide, used, r, hw, h => by
  rw [jP] at h; cases h; exact ⟨hw, rfl, rfl⟩
 | x :: ys, wide, used, r, hw, h => by
  rw [jP] at h
  cases hs : qAF d x wide with
  | none => rw [hs] at h; cases h
  | some w =>
   rw [hs] at h
   obtain ⟨h1, h2, h3⟩ := yN (hw.app (qKx hs)) h
   refine ⟨h1, ?_, ?_⟩
   ·rw [h2]; simp; omega
   ·rw [h3, qAb]
theorem qJr {d : List qP} {m i a b : Int} {x : qB} {ks out : List Int} {nodes : List qB} (hl : ks.length <= 4096) (hi0 : 0 <= i) (hi : i <= (out.length : Int)) (hi' : i <= 1048576) : ∀ (ys : List Int) (j : Int) (used : List Bool) (kw : List Int), ks.drop j.toNat = ys -> 0 <= j -> i <= (used.length : Int) -> kw.length = ks.length ->
  ∀ (Kx : Nat -> List qP -> Int -> Int -> qB -> Int -> Int -> List Int -> List Bool -> List Int -> List qB -> Prop) (Kr : Nat -> Bool -> List Int -> Prop),
  (Ev (fun n => Z16.l13 n d m i x a b ks ks.length out nodes j used kw (Kx n) (Kr n)) ↔
   if vB i ys = true then Ev (fun n => Kx n d m i x a b out (xC used ys) (kw.take j.toNat ++ ys.map fun k => rd out k.toNat) nodes) else Ev (fun n => Kr n false []))
 | [], j, used, kw, h, h0, hu, hkw, Kx, Kr => by
  have := qJ h h0
  refine Ev.suc.trans ?_
  simp (disch := omega) only [Z16.l13, Z16.l13.b, if_neg, decide_eq_true_eq, Ev.s10 Kx, vB, List.all_nil, if_true, xC, List.map_nil, List.append_nil]
  rw [List.take_of_length_le (by omega)]
 | y :: ys, j, used, kw, h, h0, hu, hkw, Kx, Kr => by
  obtain ⟨e1, e2, e3⟩ := qD h h0
  refine Ev.suc.trans ?_
  simp (disch := omega) only [Z16.l13, Z16.l13.b, if_pos, decide_eq_true_eq, decide_eq_false_iff_not, Bool.not_eq_true', qF, e2, qG, wM, Ev.iteI, Ev.s2 Kr]
  by_cases h1 : 0 <= y /\ y <= i - 1
  ·rw [if_neg (fun h => h h1)]
   rw [qJr hl hi0 hi hi' ys (j + 1) _ _ e3 (by omega) (by simpa using hu) (by simpa using hkw), Ev.s10 Kx, Ev.s2 Kr, zR (by omega) (by omega)]
   simp only [kI, h1, and_self, true_and, xC, List.map_cons, List.append_assoc, List.singleton_append]
  ·rw [if_pos h1, if_neg]
   rw [kI]
   exact fun h => h1 h.1
theorem qE2 {d : List qP} {t : List qB} (hd : d.length <= 1099511627776) (ht : t.length <= 400) : ∀ (ys : List qB) (wide z : List Int) (used : List Bool), t.drop wide.length = ys -> (wide ++ z).length = t.length -> used.length = t.length -> WOk wide ->
  ∀ (Kx : Nat -> Int -> List Int -> List Bool -> Prop) (Kr : Nat -> Bool -> List Int -> Prop),
  (Ev (fun n => Z16.l6 n d t.length t.length wide.length (wide ++ z) used t (Kx n) (Kr n)) ↔ match jP d ys wide used with
   | some r => Ev (fun n => Kx n t.length r.1 r.2)
   | none => Ev (fun n => Kr n false []))
 | [], wide, z, used, h, hz, hu, hw, Kx, Kr => by
  have hle := List.drop_eq_nil_iff.1 h
  have hz0 : z = [] := by
   rw [List.length_append] at hz
   exact List.eq_nil_of_length_eq_zero (by omega)
  subst hz0
  refine Ev.suc.trans ?_
  simp (disch := omega) only [Z16.l6, Z16.l6.b, if_neg, decide_eq_true_eq, Ev.s3 Kx, jP, List.append_nil]
 | x :: ys, wide, z, used, h, hz, hu, hw, Kx, Kr => by
  have h' : t.drop (wide.length : Int).toNat = x :: ys := h
  obtain ⟨e1, e2, e3⟩ := qD h' (by omega)
  have e2' : rd t wide.length = x := e2
  rw [List.length_append] at hz
  refine Ev.suc.trans ?_
  simp (disch := omega) only [Z16.l6, Z16.l6.b, if_pos, decide_eq_true_eq, Ev.iteI, qF, Int.toNat_natCast, e2', Ev.s2 Kr]
  rw [jP]
  have hse := qL2 (d := d) (x := x) (kw := x.2.2.2.2.2.2.map fun k => rd wide k.toNat)
  by_cases hk : x.2.2.2.2.2.2.length <= 4096
  ·rw [if_neg (by omega)]
   simp (disch := omega) only [qF, decide_true, Bool.and_true]
   rw [qJr hk (by omega) (by rw [List.length_append]; omega) (by omega) x.2.2.2.2.2.2 0 _ _ rfl (by omega) (by omega) (by simp), Ev.s2 Kr]
   by_cases hin : vB wide.length x.2.2.2.2.2.2 = true
   ·rw [if_pos hin]
    have hwk := qEA hw hin
    have hmap : (x.2.2.2.2.2.2.map fun k => rd (wide ++ z) k.toNat) = x.2.2.2.2.2.2.map fun k => rd wide k.toNat := by
     apply List.map_congr_left
     intro k hk'
     rw [vB, List.all_eq_true] at hin
     have := hin k hk'
     rw [decide_eq_true_eq] at this
     exact qMY (by omega)
    have hse := hse hwk (by simp)
    rw [if_pos hk] at hse
    simp only [Int.toNat_zero, List.take_zero, List.nil_append, hmap]
    simp (disch := first | assumption | (simp only [List.length_map, List.length_append, List.length_set]; omega) | omega) only [qKt hd (by simpa using hk) (fun w hw' => ⟨by have := hwk w hw'; omega, (hwk w hw').2⟩), qKE, Ev.iteI, Bool.not_eq_false', qF, qBW, Int.toNat_natCast, wM, Bool.not_eq_true', decide_eq_false_iff_not, qG, Ev.s2 Kr]
    by_cases hp : wK x = true
    ·rw [if_pos hp]
     have hst : qAF d x wide = acc (yD d x (x.2.2.2.2.2.2.map fun k => rd wide k.toNat)) := by
      rw [hse, qAF]
      by_cases hkb : kZ d x = true
      ·rw [if_pos ⟨hin, hp, hkb⟩, if_pos hkb]
      ·rw [if_neg (fun h => hkb h.2.2), if_neg hkb]
     by_cases hacc : 1 <= yD d x (x.2.2.2.2.2.2.map fun k => rd wide k.toNat) /\ yD d x (x.2.2.2.2.2.2.map fun k => rd wide k.toNat) <= 4096
     ·rw [if_neg (fun h => h hacc)]
      rw [hst, acc, if_pos hacc]
      simp only []
      match z, hz with
      | [], hz => simp at hz; omega
      | v :: z, hz =>
       have es : (wide ++ v :: z).set wide.length (yD d x (x.2.2.2.2.2.2.map fun k => rd wide k.toNat)) = (wide ++ [yD d x (x.2.2.2.2.2.2.map fun k => rd wide k.toNat)]) ++ z := by
        rw [List.set_append_right _ _ (Nat.le_refl _), Nat.sub_self, List.set_cons_zero, List.append_assoc]; rfl
       rw [es]
       have el : ((wide.length : Int) + 1) = ((wide ++ [yD d x (x.2.2.2.2.2.2.map fun k => rd wide k.toNat)]).length : Int) := by simp
       rw [el, qE2 hd ht ys _ z _ (by rw [<- e3, List.length_append]; rfl) (by simp at hz ⊢; omega) (by rw [qAb]; exact hu) (hw.app hacc)]
       cases jP d ys (wide ++ [yD d x (x.2.2.2.2.2.2.map fun k => rd wide k.toNat)]) (xC used x.2.2.2.2.2.2) with
       | none => exact Ev.s2 Kr _ _
       | some r => exact Ev.s3 Kx _ _ _
     ·rw [if_pos hacc, hst, acc, if_neg hacc]
    ·rw [if_neg hp, qAF, if_neg (fun h => hp h.2.1)]
   ·rw [if_neg hin, qAF, if_neg (fun h => hin h.1)]
  ·rw [if_pos (by omega)]
   have : qAF d x wide = none := by
    unfold qAF
    split
    ·rename_i hh
     have hse := hse (qEA hw hh.1) (by simp)
     rw [if_neg hk, if_pos hh.2.2] at hse
     exact hse.symm
    ·rfl
   rw [this]
theorem qLu {l : List Bool} {v : Bool} (hl : l.length <= 1099511627776) : ∀ (ys : List Bool) (x : Int), l.drop x.toNat = ys -> 0 <= x ->
  ∀ (Kx : Nat -> Prop) (Kr : Nat -> Int -> Prop),
  (Ev (fun n => Z64.l2 n l v l.length x (Kx n) (Kr n)) ↔ if zM (fun y => v == y) ys x < 0 then Ev Kx else Ev (fun n => Kr n (zM (fun y => v == y) ys x)))
 | [], x, h, h0, Kx, Kr => by
  have := qJ h h0
  rw [zM, if_pos (by decide)]
  refine Ev.suc.trans ?_
  simp (disch := omega) only [Z64.l2, Z64.l2.b, if_neg, decide_eq_true_eq, Ev.s0 Kx]
 | y :: ys, x, h, h0, Kx, Kr => by
  obtain ⟨e1, e2, e3⟩ := qD h h0
  refine Ev.suc.trans ?_
  simp (disch := first | omega | omega) only [Z64.l2, Z64.l2.b, if_pos, decide_eq_true_eq, qF, e2, qG, Ev.s1 Kr, Ev.s0 Kx, Ev.iteI]
  rw [qLu hl ys (x + 1) e3 (by omega), Ev.s0 Kx, Ev.s1 Kr]
  simp only [zM, decide_eq_true_eq]
  split
  ·rw [if_neg (by omega)]
  ·rfl
theorem qNG {l : List Bool} {v : Bool} (hl : l.length <= 1099511627776) (R : Nat -> Int -> Prop) :
  Ev (fun n => Z64.c n l v (R n)) ↔ Ev (fun n => R n (zM (fun y => v == y) l 0)) := by
 refine Ev.suc.trans ?_
 simp only [Z64.c, Z64.w]
 rw [qLu hl l 0 rfl (by omega), Ev.s1 R, Ev.s1 R]
 split
 ·rw [qAK (by omega) ‹_›]
 ·rfl
theorem qNL {l : List Bool} {v : Bool} (hl : l.length <= 1099511627776) (R : Nat -> Bool -> Prop) :
  Ev (fun n => Z61.c n l v (R n)) ↔ Ev (fun n => R n (l.any fun y => v == y)) := by
 refine Ev.suc.trans ?_
 simp only [Z61.c, Z61.w]
 rw [qNG hl, Ev.s1 R, qAL (by omega)]
theorem qJ5 (l : List Bool) : (!(l.any fun y => false == y)) = l.all id := by
 induction l with
 | nil => rfl
 | cons a l ih => rw [List.any_cons, List.all_cons, Bool.not_or, ih]; cases a <;> rfl
def zP (d : List qP) (t : List qB) : List Int × Bool :=
 if 1 <= t.length /\ t.length <= 400 then (match jP d t [] (List.replicate t.length false) with
  | some r => (r.1, (r.2.take (t.length - 1)).all id)
  | none => ([], false)) else ([], false)
theorem qBr {d : List qP} {t : List qB} (h : (zP d t).2 = true) : WOk (zP d t).1 /\ (zP d t).1.length = t.length /\ 1 <= t.length /\ t.length <= 400 := by
 unfold zP at h ⊢
 by_cases hl : 1 <= t.length /\ t.length <= 400
 ·rw [if_pos hl] at h ⊢
  cases hg : jP d t [] (List.replicate t.length false) with
  | none => rw [hg] at h; cases h
  | some r =>
   rw [hg] at h
   obtain ⟨h1, h2, h3⟩ := yN (fun w hw => by cases hw) hg
   exact ⟨h1, by simpa using h2, hl⟩
 ·rw [if_neg hl] at h; cases h
theorem qIs {d : List qP} {t : List qB} (hd : d.length <= 1099511627776) (R : Nat -> List Int -> Bool -> Prop) :
  Ev (fun n => Z16.c n d t (R n)) ↔ Ev (fun n => R n (zP d t).1 (zP d t).2) := by
 refine Ev.suc.trans ?_
 simp only [Z16.c, Z16.w, Ev.iteI, decide_eq_true_eq, decide_eq_false_iff_not, Ev.s2 R, zP]
 by_cases hl : 1 <= t.length /\ t.length <= 400
 ·rw [if_pos (by omega), if_neg (by omega), if_pos hl]
  have lp := fun (Kx : Nat -> Int -> List Int -> List Bool -> Prop) (Kr : Nat -> Bool -> List Int -> Prop) => qE2 hd hl.2 t [] (List.replicate t.length 0) (List.replicate t.length false) rfl (by simp) (by simp) (fun w hw => by cases hw) Kx Kr
  simp only [List.length_nil, List.nil_append, Int.natCast_zero] at lp
  simp (disch := omega) only [Z16.j1, Z16.j0, qF, decide_true, Bool.and_true, and_self, Int.toNat_natCast]
  rw [lp]
  cases hg : jP d t [] (List.replicate t.length false) with
  | none => exact Ev.s2 R _ _
  | some r =>
   obtain ⟨h1, h2, h3⟩ := yN (fun w hw => by cases hw) hg
   rw [List.length_replicate] at h3
   simp (disch := omega) only [qG, qHs]
   rw [qNL (by simp; omega), Ev.s2 R]
   rw [qJ5, List.drop_zero, show ((t.length : Int) - 1).toNat = t.length - 1 from by omega]
 ·rw [if_neg hl]
  split
  ·rw [if_pos (by omega)]
  ·rfl
def jG (d : List qP) (t : List qB) : Int := if (zP d t).2 = true then rd (zP d t).1 (t.length - 1) else -1
theorem qIu {d : List qP} {t : List qB} (hd : d.length <= 1099511627776) (R : Nat -> Int -> Prop) :
  Ev (fun n => Z15.c n d t (R n)) ↔ Ev (fun n => R n (jG d t)) := by
 refine Ev.suc.trans ?_
 simp only [Z15.c, Z15.w, qIs hd, Ev.iteI, Bool.not_eq_true', Ev.s1 R, jG]
 by_cases h : (zP d t).2 = true
 ·obtain ⟨h1, h2, h3, h4⟩ := qBr h
  rw [if_pos h, if_neg (by simp [h])]
  simp (disch := omega) only [qG, qF, Ev.s1 R]
  rw [show (((zP d t).1.length : Int) - 1).toNat = t.length - 1 from by omega]
 ·rw [if_neg h, if_pos (by simpa using h)]
def xK (d : List qP) (t : List qB) : Int := if zN d = true then jG d t else -1
theorem qGW {d : List qP} {wide : List Int} {a b c e f : Int} {w ks : List Int} (hl : ks.length <= 1099511627776) (hw : WOk wide) : ∀ (ys : List Int) (s x : Int), ks.drop x.toNat = ys -> 0 <= x -> 0 <= s -> s <= 8192 -> vB wide.length ys = true ->
  ∀ (Kx : Nat -> List qP -> Int -> Int -> Int -> Int -> Int -> Int -> List Int -> List Int -> Prop),
  (Ev (fun n => Z82.l3 n d wide a b c e f w ks s x (Kx n)) ↔ Ev (fun n => Kx n d (wO s (ys.map fun k => rd wide k.toNat)) a b c e f w ks))
 | [], s, x, h, h0, hs, hs', hk, Kx => by
  have := qJ h h0
  refine Ev.suc.trans ?_
  simp (disch := omega) only [Z82.l3, Z82.l3.b, if_neg, decide_eq_true_eq, Ev.s9 Kx, List.map_nil, wO]
 | y :: ys, s, x, h, h0, hs, hs', hk, Kx => by
  obtain ⟨e1, e2, e3⟩ := qD h h0
  rw [kI] at hk
  have hy := hw _ (qLh hk.1.1 (show y < (wide.length : Int) by omega))
  refine Ev.suc.trans ?_
  simp (disch := omega) only [Z82.l3, Z82.l3.b, if_pos, decide_eq_true_eq, qF, e2, qG]
  rw [qGW hl hw ys _ (x + 1) e3 (by omega) (by split <;> omega) (by split <;> omega) hk.2, Ev.s9 Kx, List.map_cons, wO]
theorem qKu {d : List qP} {wide : List Int} {a b c e f : Int} {w ks : List Int} (hd : d.length <= 1099511627776) (hl : ks.length <= 1099511627776) (hw : WOk wide) (hk : vB wide.length ks = true) (hkb : kZ d (a, b, c, e, f, w, ks) = true) (R : Nat -> Int -> Prop) :
  Ev (fun n => Z82.c n d a b c e f w ks wide (R n)) ↔ Ev (fun n => R n (qCg d (a, b, c, e, f, w, ks) (wO 0 (ks.map fun k => rd wide k.toNat)))) := by
 refine Ev.suc.trans ?_
 simp only [Z82.c, Z82.w]
 rw [qGW hl hw ks 0 0 rfl (by omega) (by omega) (by omega) hk]
 have hs : 0 <= wO 0 (ks.map fun k => rd wide k.toNat) /\ wO 0 (ks.map fun k => rd wide k.toNat) <= 8192 := by
  have hwk := qEA hw hk
  have := qG5 hwk
  rw [qDf (by omega) (by omega) hwk]
  split <;> omega
 generalize wO 0 (ks.map fun k => rd wide k.toNat) = s at hs
 rw [kZ, decide_eq_true_eq] at hkb
 simp only [] at hkb
 simp only [Z82.j2, Z82.j3, Ev.iteI, decide_eq_true_eq, decide_eq_false_iff_not, Bool.not_eq_true', kY, Ev.s1 R, if_true]
 rw [qCg]
 simp only []
 by_cases h1 : a = 1
 ·rw [if_pos h1, if_pos h1]
  simp (disch := omega) only [qF, Ev.s1 R]
 rw [if_neg h1, if_neg h1]
 by_cases h2 : a = 2
 ·rw [if_pos h2, if_pos h2]
 rw [if_neg h2, if_neg h2]
 by_cases h4 : a = 4
 ·rw [if_pos h4, if_pos h4]
  by_cases g1 : e < 0
  ·rw [if_neg (by omega), if_pos (Or.inl g1)]
  rw [if_pos g1]
  by_cases g2 : c < e
  ·rw [if_neg (by omega), if_pos (Or.inr (Or.inl g2))]
  rw [if_pos g2]
  by_cases g3 : c >= s
  ·rw [if_pos g3, if_pos (Or.inr (Or.inr g3))]
  rw [if_neg g3, if_neg (by omega), qG (x := c - e) (by omega) (by omega), qG (by omega) (by omega)]
 rw [if_neg h4, if_neg h4]
 have hm : 1 <= c /\ c <= 4096 -> IntKind.wrap .i64 (s * c) = s * c := fun h => by
  have := qPP hs.1 hs.2 (show 0 <= c by omega) h.2
  exact qG (by omega) (by omega)
 have hp : 0 <= c /\ c <= 4096 -> IntKind.wrap .i64 (s + c) = s + c := fun h => qG (by omega) (by omega)
 have key56 : (if ¬ (0 <= c /\ c <= 4096) then Ev fun n => R n (-1) else Ev fun n => R n (IntKind.wrap .i64 (s + c))) ↔ Ev fun n => R n (if 0 <= c /\ c <= 4096 then s + c else -1) := by
  by_cases g : 0 <= c /\ c <= 4096
  ·rw [if_neg (fun h => h g), if_pos g, hp g]
  ·rw [if_pos g, if_neg g]
 have key78 : (if ¬ (0 <= c /\ c <= 4096) then Ev fun n => R n (-1) else Ev fun n => R n s) ↔ Ev fun n => R n (if 0 <= c /\ c <= 4096 then s else -1) := by
  by_cases g : 0 <= c /\ c <= 4096
  ·rw [if_neg (fun h => h g), if_pos g]
  ·rw [if_pos g, if_neg g]
 have key9 : (if ¬ (1 <= c /\ c <= 4096) then Ev fun n => R n (-1) else Ev fun n => R n (IntKind.wrap .i64 (s * c))) ↔ Ev fun n => R n (if 1 <= c /\ c <= 4096 then s * c else -1) := by
  by_cases g : 1 <= c /\ c <= 4096
  ·rw [if_neg (fun h => h g), if_pos g, hm g]
  ·rw [if_pos g, if_neg g]
 by_cases h5 : a = 5
 ·rw [if_pos h5, if_pos (Or.inl h5)]; exact key56
 rw [if_neg h5]
 by_cases h6 : a = 6
 ·rw [if_pos h6, if_pos (Or.inr h6)]; exact key56
 rw [if_neg h6, if_neg (show ¬ (a = 5 \/ a = 6) by omega)]
 by_cases h7 : a = 7
 ·rw [if_pos h7, if_pos (Or.inl h7)]; exact key78
 rw [if_neg h7]
 by_cases h8 : a = 8
 ·rw [if_pos h8, if_pos (Or.inr h8)]; exact key78
 rw [if_neg h8, if_neg (show ¬ (a = 7 \/ a = 8) by omega)]
 by_cases h9 : a = 9
 ·rw [if_pos h9, if_pos h9]; exact key9
 rw [if_neg h9, if_neg h9]
theorem qG1 {d : List qP} {i : Int} {o wide : List Int} {t : List qB} {x : qB} (hi0 : 0 <= i) (hi : i < (t.length : Int)) (hx : rd t i.toNat = x) (hl : x.2.2.2.2.2.2.length <= 1099511627776) : ∀ (ys : List Int) (j : Int) (used : List Bool), x.2.2.2.2.2.2.drop j.toNat = ys -> 0 <= j -> used.length = t.length -> vB i ys = true ->
  ∀ (Kx : Nat -> List qP -> Int -> List Int -> List Bool -> List Int -> List qB -> Prop),
  (Ev (fun n => Z83.l16 n d i o wide t j used (Kx n)) ↔ Ev (fun n => Kx n d i o (xC used ys) wide t))
 | [], j, used, h, h0, hu, hk, Kx => by
  have := qJ h h0
  refine Ev.suc.trans ?_
  simp (disch := omega) only [Z83.l16, Z83.l16.b, qF, hx, if_neg, decide_eq_true_eq, Ev.s6 Kx, xC]
 | y :: ys, j, used, h, h0, hu, hk, Kx => by
  obtain ⟨e1, e2, e3⟩ := qD h h0
  rw [kI] at hk
  refine Ev.suc.trans ?_
  simp (disch := omega) only [Z83.l16, Z83.l16.b, qF, hx, if_pos, decide_eq_true_eq, e2, qG]
  rw [qG1 hi0 hi hx hl ys (j + 1) _ e3 (by omega) (by simpa using hu) hk.2, Ev.s6 Kx, xC]
theorem qDC {d : List qP} {t : List qB} (hd : d.length <= 1099511627776) (ht : t.length <= 400) (hg : ∀ x : qB, x ∈ t -> Wd x.2.2.2.2.2.1 /\ x.2.2.2.2.2.2.length <= 1099511627776) : ∀ (ys : List qB) (wide : List Int) (used : List Bool), t.drop wide.length = ys -> (∀ x : qB, x ∈ ys -> Wd x.2.2.2.2.2.1 /\ x.2.2.2.2.2.2.length <= 1099511627776) -> used.length = t.length -> WOk wide ->
  ∀ (Kx : Nat -> List Int -> List Int -> List Bool -> Prop) (Kr : Nat -> List Int -> Prop),
  (Ev (fun n => Z83.l7 n d wide.length wide [] used t (Kx n) (Kr n)) ↔ match jP d ys wide used with
   | some r => Ev (fun n => Kx n r.1 [] r.2)
   | none => Ev (fun n => Kr n []))
 | [], wide, used, h, hy, hu, hw, Kx, Kr => by
  have hle := List.drop_eq_nil_iff.1 h
  refine Ev.suc.trans ?_
  simp (disch := omega) only [Z83.l7, Z83.l7.b, if_neg, decide_eq_true_eq, Ev.s3 Kx, jP]
 | x :: ys, wide, used, h, hy, hu, hw, Kx, Kr => by
  have h' : t.drop (wide.length : Int).toNat = x :: ys := h
  obtain ⟨e1, e2, e3⟩ := qD h' (by omega)
  have e2' : rd t wide.length = x := e2
  have hx := hy x List.mem_cons_self
  refine Ev.suc.trans ?_
  simp (disch := first | exact hx.1 | exact hx.2 | omega) only [Z83.l7, Z83.l7.b, if_pos, decide_eq_true_eq, Ev.iteI, qF, Int.toNat_natCast, e2', Ev.s1 Kr, qMp, Bool.not_eq_true']
  rw [jP]
  by_cases hf : vB wide.length x.2.2.2.2.2.2 = true /\ wK x = true /\ kZ d x = true
  ·obtain ⟨f1, f2, f3⟩ := hf
   have e : (vB (wide.length : Int) x.2.2.2.2.2.2 && wK (x.1, x.2.1, x.2.2.1, x.2.2.2.1, x.2.2.2.2.1, x.2.2.2.2.2.1, x.2.2.2.2.2.2) && kZ d (x.1, x.2.1, x.2.2.1, x.2.2.2.1, x.2.2.2.2.1, x.2.2.2.2.2.1, x.2.2.2.2.2.2)) = true := by
    rw [f1, show wK (x.1, x.2.1, x.2.2.1, x.2.2.2.1, x.2.2.2.2.1, x.2.2.2.2.2.1, x.2.2.2.2.2.2) = true from f2, show kZ d (x.1, x.2.1, x.2.2.1, x.2.2.2.1, x.2.2.2.2.1, x.2.2.2.2.2.1, x.2.2.2.2.2.2) = true from f3]; rfl
   rw [e, if_neg (by decide)]
   have hwi := fun (R : Nat -> Int -> Prop) => qKu (wide := wide) hd hx.2 hw f1 f3 R
   simp (disch := omega) only [hwi, kY, Ev.iteI, Bool.not_eq_true', decide_eq_false_iff_not, Ev.s1 Kr, kL]
   have hst : qAF d x wide = acc (qCg d x (wO 0 (x.2.2.2.2.2.2.map fun k => rd wide k.toNat))) := by
    rw [qAF, if_pos ⟨f1, f2, f3⟩]
   rw [hst]
   generalize hv : qCg d x (wO 0 (x.2.2.2.2.2.2.map fun k => rd wide k.toNat)) = v
   by_cases hacc : 1 <= v /\ v <= 4096
   ·rw [if_neg (fun h => h hacc), acc, if_pos hacc]
    simp only []
    simp (disch := (simp only [List.length_cons, List.length_nil]; omega)) only [kL]
    rw [qG1 (by omega) e1 e2 hx.2 _ 0 used rfl (by omega) hu f1]
    have el : IntKind.wrap .i64 ((wide.length : Int) + 1) = ((wide ++ [v]).length : Int) := by
     rw [qG (by omega) (by omega)]; simp
    rw [el, qDC hd ht hg ys (wide ++ [v]) _ (by rw [<- e3, List.length_append]; rfl) (fun x hx' => hy x (List.mem_cons_of_mem _ hx')) (by rw [qAb]; exact hu) (hw.app hacc)]
    simp only [Int.toNat_zero, List.drop_zero]
    cases jP d ys (wide ++ [v]) (xC used x.2.2.2.2.2.2) with
    | none => exact Ev.s1 Kr _
    | some r => exact Ev.s3 Kx _ _ _
   ·rw [if_pos hacc, acc, if_neg hacc]
  ·have e : (vB (wide.length : Int) x.2.2.2.2.2.2 && wK (x.1, x.2.1, x.2.2.1, x.2.2.2.1, x.2.2.2.2.1, x.2.2.2.2.2.1, x.2.2.2.2.2.2) && kZ d (x.1, x.2.1, x.2.2.1, x.2.2.2.1, x.2.2.2.2.1, x.2.2.2.2.2.1, x.2.2.2.2.2.2)) = false := by
    rw [Bool.eq_false_iff]
    intro h
    rw [Bool.and_eq_true, Bool.and_eq_true] at h
    exact hf ⟨h.1.1, h.1.2, h.2⟩
   rw [if_pos e, qAF, if_neg hf]
theorem qJ6 {wide : List Int} {used : List Bool} (hl : used.length <= 1048576) (h1 : 1 <= used.length) : ∀ (m : Nat) (i : Int), i + m = (used.length : Int) - 1 -> 0 <= i -> ∀ (Kx Kr : Nat -> List Int -> Prop),
  (Ev (fun n => Z83.l20 n wide [] used i (Kx n) (Kr n)) ↔ if ((used.take (used.length - 1)).drop i.toNat).all id = true then Ev (fun n => Kx n wide) else Ev (fun n => Kr n []))
 | 0, i, h, h0, Kx, Kr => by
  refine Ev.suc.trans ?_
  simp (disch := omega) only [Z83.l20, Z83.l20.b, qG, if_neg, decide_eq_true_eq, Ev.s1 Kx]
  rw [List.drop_eq_nil_of_le (by simp; omega)]
  simp
 | m + 1, i, h, h0, Kx, Kr => by
  refine Ev.suc.trans ?_
  have hk : i.toNat < (used.take (used.length - 1)).length := by simp; omega
  have e : (used.take (used.length - 1)).drop i.toNat = rd used i.toNat :: (used.take (used.length - 1)).drop (i + 1).toNat := by
   rw [List.drop_eq_getElem_cons hk, show (i + 1).toNat = i.toNat + 1 from by omega]
   congr 1
   rw [List.getElem_take, rd, List.getD_eq_getElem?_getD, List.getElem?_eq_getElem (by omega)]; rfl
  simp (disch := omega) only [Z83.l20, Z83.l20.b, qG, if_pos, decide_eq_true_eq, qF, Ev.iteI, Bool.not_eq_true', Ev.s1 Kr, e]
  rw [qJ6 hl h1 m (i + 1) (by omega) (by omega), Ev.s1 Kx, Ev.s1 Kr, List.all_cons, id]
  cases rd used i.toNat <;> simp
theorem qHN {d : List qP} {t : List qB} (hd : d.length <= 1099511627776) (hg : ∀ x : qB, x ∈ t -> Wd x.2.2.2.2.2.1 /\ x.2.2.2.2.2.2.length <= 1099511627776) (R : Nat -> List Int -> Prop) :
  Ev (fun n => Z83.c n d t (R n)) ↔ Ev (fun n => R n (if zN d = true /\ (zP d t).2 = true then (zP d t).1 else [])) := by
 refine Ev.suc.trans ?_
 simp only [Z83.c, Z83.w, qDd, Ev.iteI, decide_eq_true_eq, decide_eq_false_iff_not, Bool.not_eq_false', Ev.s1 R, zP]
 by_cases h : zN d = true
 ·rw [if_pos h]
  by_cases hl : 1 <= t.length /\ t.length <= 400
  ·rw [if_pos (by omega), if_neg (by omega)]
   simp only [if_pos hl]
   have lp := fun (Kx : Nat -> List Int -> List Int -> List Bool -> Prop) (Kr : Nat -> List Int -> Prop) => qDC hd hl.2 hg t [] (List.replicate t.length false) rfl hg (by simp) (fun w hw => by cases hw) Kx Kr
   simp only [List.length_nil] at lp
   simp only [Int.natCast_zero] at lp
   simp (disch := omega) only [Z83.j0, qF, decide_true, Bool.and_true, Int.toNat_natCast]
   rw [lp]
   cases hg' : jP d t [] (List.replicate t.length false) with
   | none => simp only [h, Bool.false_eq_true, and_false, if_false]; exact Ev.s1 R _
   | some r =>
    obtain ⟨h1, h2, h3⟩ := yN (fun w hw => by cases hw) hg'
    rw [List.length_replicate] at h3
    simp only [h, true_and]
    rw [qJ6 (by omega) (by omega) (t.length - 1) 0 (by omega) (by omega), Ev.s1 R, Ev.s1 R, h3]
    simp only [Int.toNat_zero, List.drop_zero]
    split <;> rfl
  ·simp only [if_neg hl, Bool.false_eq_true, and_false, if_false]
   split
   ·rw [if_pos (by omega)]
   ·rfl
 ·rw [if_neg h]
  simp only [h, false_and, if_false]
  rw [if_neg (by simp)]
theorem qAD {d : List qP} {t : List qB} (hd : d.length <= 1099511627776) (hg : ∀ x : qB, x ∈ t -> Wd x.2.2.2.2.2.1 /\ x.2.2.2.2.2.2.length <= 1099511627776) (R : Nat -> Int -> Prop) :
  Ev (fun n => Z71.c n d t (R n)) ↔ Ev (fun n => R n (xK d t)) := by
 refine Ev.suc.trans ?_
 simp only [Z71.c, Z71.w, qHN hd hg, Ev.iteI, decide_eq_true_eq, Ev.s1 R, xK, jG]
 by_cases h : zN d = true
 ·by_cases h2 : (zP d t).2 = true
  ·obtain ⟨h3, h4, h5, h6⟩ := qBr h2
   simp only [h, h2, and_self, if_true]
   rw [if_neg (by omega)]
   simp (disch := omega) only [qG, qF, Ev.s1 R]
   rw [show (((zP d t).1.length : Int) - 1).toNat = t.length - 1 from by omega]
  ·simp only [h, h2, and_false, if_false, List.length_nil, if_true]
   simp
 ·simp only [h, false_and, if_false, List.length_nil]
  simp
def LOk (l : List Int) : Prop := ∀ w ∈ l, 0 <= w /\ w <= 1000000
theorem LOk.app {acc : List Int} {w : Int} (h : LOk acc) (hw : 0 <= w /\ w <= 1000000) : LOk (acc ++ [w]) := by
 intro v hv
 rcases List.mem_append.1 hv with hv | hv
 ·exact h v hv
 ·rw [List.mem_singleton] at hv; subst hv; exact hw
def xT (d : List qP) : List qA -> Int -> Bool
 | [], _ => true
 | l :: r, b => decide (b + 1 <= l.1 /\ l.1 <= 1000000) && !(decide (jG d l.2.2.1 < 0)) && decide (jG d l.2.2.1 = jG d l.2.2.2) && xT d r l.1
def qJm (d : List qP) (l : List qA) : Bool := decide (l.length <= 60) && xT d l 0
def qAy (d : List qP) (l : List qA) : Bool := zN d && qJm d l
theorem qJk {d : List qP} {l : List qA} (hd : d.length <= 1099511627776) (hl : l.length <= 60) : ∀ (ys : List qA) (x b : Int), l.drop x.toNat = ys -> 0 <= x -> 0 <= b -> b <= 1000000 -> ∀ (R : Nat -> Bool -> Prop),
  (Ev (fun n => Z10.l5 n d l l.length b x (R n true) (R n)) ↔ Ev (fun n => R n (xT d ys b)))
 | [], x, b, h, h0, hb, hb', R => by
  have := qJ h h0
  refine Ev.suc.trans ?_
  simp (disch := omega) only [Z10.l5, Z10.l5.b, if_neg, decide_eq_true_eq, Ev.s1 R, xT]
 | y :: ys, x, b, h, h0, hb, hb', R => by
  obtain ⟨e1, e2, e3⟩ := qD h h0
  refine Ev.suc.trans ?_
  simp (disch := omega) only [Z10.l5, Z10.l5.b, if_pos, decide_eq_true_eq, decide_eq_false_iff_not, qF, e2, qG, qIu hd, wM, Ev.iteI, Bool.not_eq_false', Bool.not_eq_true', Ev.s1 R, xT]
  by_cases h1 : b + 1 <= y.1 /\ y.1 <= 1000000
  ·rw [if_pos h1]
   by_cases h2 : jG d y.2.2.1 < 0
   ·rw [if_neg (fun h => h h2)]; simp [h2]
   ·rw [if_pos h2]
    by_cases h3 : jG d y.2.2.1 = jG d y.2.2.2
    ·rw [if_neg (fun h => h h3), qJk hd hl ys (x + 1) y.1 e3 (by omega) (by omega) (by omega) (fun n => R (n + 1)), Ev.s1 R]
     simp only [h1, h2, h3, and_self, decide_true, decide_false, Bool.not_false, Bool.true_and]
     rw [<- h3]; simp [h2]
    ·rw [if_pos h3]; simp [h3]
  ·rw [if_neg h1]; simp [h1]
theorem qKL {d : List qP} {l : List qA} (hd : d.length <= 1099511627776) (R : Nat -> Bool -> Prop) :
  Ev (fun n => Z10.c n d l (R n)) ↔ Ev (fun n => R n (qJm d l)) := by
 refine Ev.suc.trans ?_
 simp only [Z10.c, Z10.w, Ev.iteI, decide_eq_true_eq, Ev.s1 R, qJm]
 by_cases h : l.length <= 60
 ·rw [if_neg (by omega), qJk hd h l 0 0 rfl (by omega) (by omega) (by omega) (fun n => R (n + 1)), Ev.s1 R]
  simp [h]
 ·rw [if_pos (by omega)]; simp [h]
theorem qJl {d : List qP} {l : List qA} (hd : d.length <= 1099511627776) (R : Nat -> Bool -> Prop) :
  Ev (fun n => Z2.c n d l (R n)) ↔ Ev (fun n => R n (qAy d l)) := by
 refine Ev.suc.trans ?_
 simp only [Z2.c, Z2.w, qIf, Ev.iteI, qKL hd, Ev.s1 R, qAy]
 by_cases h : zN d = true
 ·rw [if_pos h, h, Bool.true_and]
 ·rw [if_neg h, show zN d = false from by simpa using h, Bool.false_and]
def qPg (l : List qA) : Prop := ∀ y : qA, y ∈ l -> (∀ x : qB, x ∈ y.2.2.1 -> Wd x.2.2.2.2.2.1 /\ x.2.2.2.2.2.2.length <= 1099511627776) /\ (∀ x : qB, x ∈ y.2.2.2 -> Wd x.2.2.2.2.2.1 /\ x.2.2.2.2.2.2.length <= 1099511627776)
theorem qE3 {d : List qP} {t : List qB} (h : zN d = true) : xK d t = jG d t := by rw [xK, if_pos h]
theorem qHm {d : List qP} {l : List qA} (hd : d.length <= 1099511627776) (hok : zN d = true) (hl : l.length <= 60) : ∀ (ys : List qA) (x b : Int), l.drop x.toNat = ys -> 0 <= x -> qPg ys -> 0 <= b -> (x = 0 -> b = 0) -> (0 < x -> (rd l (x - 1).toNat).1 = b) -> ∀ (R : Nat -> Bool -> Prop),
  (Ev (fun n => Z68.l4 n d l x (R n true) (R n)) ↔ Ev (fun n => R n (xT d ys b)))
 | [], x, b, h, h0, hg, hb, hb0, hb1, R => by
  have := qJ h h0
  refine Ev.suc.trans ?_
  simp (disch := omega) only [Z68.l4, Z68.l4.b, if_neg, decide_eq_true_eq, Ev.s1 R, xT]
 | y :: ys, x, b, h, h0, hg, hb, hb0, hb1, R => by
  obtain ⟨e1, e2, e3⟩ := qD h h0
  have hgy := hg y List.mem_cons_self
  have s1 := fun (R : Nat -> Int -> Prop) => qAD (t := y.2.2.1) hd hgy.1 R
  have s2 := fun (R : Nat -> Int -> Prop) => qAD (t := y.2.2.2) hd hgy.2 R
  have tail : 1 <= y.1 /\ y.1 <= 1000000 -> ((if jG d y.2.2.1 < 0 then Ev (fun n => R n false) else if ¬ jG d y.2.2.2 = jG d y.2.2.1 then Ev (fun n => R n false) else Ev fun n => Z68.l4 n d l (x + 1) (R (n + 1) true) (R (n + 1))) ↔
    Ev fun n => R n (!(decide (jG d y.2.2.1 < 0)) && decide (jG d y.2.2.1 = jG d y.2.2.2) && xT d ys y.1)) := fun hr => by
   by_cases h2 : jG d y.2.2.1 < 0
   ·rw [if_pos h2]; simp [h2]
   ·rw [if_neg h2]
    by_cases h3 : jG d y.2.2.2 = jG d y.2.2.1
    ·rw [if_neg (fun h => h h3), qHm hd hok hl ys (x + 1) y.1 e3 (by omega) (fun z hz => hg z (List.mem_cons_of_mem _ hz)) (by omega) (by omega) (fun _ => by rw [show x + 1 - 1 = x from by omega, e2]) (fun n => R (n + 1)), Ev.s1 R, h3]
     simp [h2]
    ·rw [if_pos h3, show decide (jG d y.2.2.1 = jG d y.2.2.2) = false from by rw [decide_eq_false_iff_not]; exact fun h => h3 h.symm]
     simp
  refine Ev.suc.trans ?_
  rw [xT]
  by_cases hr : 1 <= y.1 /\ y.1 <= 1000000
  ·by_cases hx : 0 < x
   ·have hp := hb1 hx
    simp (disch := omega) only [Z68.l4, Z68.l4.b, if_pos, decide_eq_true_eq, decide_eq_false_iff_not, qF, e2, qG, s1, s2, kY, Ev.iteI, Bool.not_eq_false', Bool.not_eq_true', Ev.s1 R, qE3 hok, hp, gt_iff_lt, ite_not]
    by_cases h4 : y.1 <= b
    ·rw [if_pos h4, show decide (b + 1 <= y.1 /\ y.1 <= 1000000) = false from by rw [decide_eq_false_iff_not]; omega]; simp
    ·rw [if_neg h4, show decide (b + 1 <= y.1 /\ y.1 <= 1000000) = true from by rw [decide_eq_true_eq]; omega, Bool.true_and]
     have t := tail hr
     simp only [ite_not] at t
     exact t
   ·have hx0 : x = 0 := by omega
    have hbz := hb0 hx0
    subst hbz
    simp (disch := omega) only [Z68.l4, Z68.l4.b, if_pos, if_neg, decide_eq_true_eq, decide_eq_false_iff_not, qF, e2, qG, s1, s2, kY, Ev.iteI, Bool.not_eq_false', Bool.not_eq_true', Ev.s1 R, qE3 hok, gt_iff_lt, ite_not]
    rw [show decide ((0 : Int) + 1 <= y.1 /\ y.1 <= 1000000) = true from by rw [decide_eq_true_eq]; omega, Bool.true_and]
    have t := tail hr
    simp only [ite_not] at t
    exact t
  ·simp (disch := omega) only [Z68.l4, Z68.l4.b, if_pos, decide_eq_true_eq, qF, e2, s1, kY, Ev.iteI, Bool.not_eq_false', hr, if_false, Ev.s1 R]
   rw [show decide (b + 1 <= y.1 /\ y.1 <= 1000000) = false from by rw [decide_eq_false_iff_not]; omega]; simp
theorem qKK {d : List qP} {l : List qA} (hd : d.length <= 1099511627776) (hg : qPg l) (R : Nat -> Bool -> Prop) :
  Ev (fun n => Z68.c n d l (R n)) ↔ Ev (fun n => R n (qAy d l)) := by
 refine Ev.suc.trans ?_
 simp only [Z68.c, Z68.w, qDd, Ev.iteI, decide_eq_true_eq, Bool.not_eq_false', Ev.s1 R, qAy, qJm]
 by_cases h : zN d = true
 ·rw [if_pos h, h, Bool.true_and]
  by_cases hl : l.length <= 60
  ·rw [if_neg (by omega), qHm hd h hl l 0 0 rfl (by omega) hg (by omega) (fun _ => rfl) (fun h => absurd h (by omega)) (fun n => R (n + 1)), Ev.s1 R]
   simp [hl]
  ·rw [if_pos (by omega)]; simp [hl]
 ·rw [if_neg h, show zN d = false from by simpa using h, Bool.false_and]
theorem qLm {l : List Int} {a : Int} (hl : l.length <= 1099511627776) : ∀ (ys : List Int) (x : Int), l.drop x.toNat = ys -> 0 <= x -> ∀ (Kx : Nat -> Prop) (Kr : Nat -> Bool -> Prop),
  (Ev (fun n => Z76.l2 n l a x (Kx n) (Kr n)) ↔ if a ∈ ys then Ev (fun n => Kr n true) else Ev Kx)
 | [], x, h, h0, Kx, Kr => by
  have := qJ h h0
  refine Ev.suc.trans ?_
  simp (disch := omega) only [Z76.l2, Z76.l2.b, if_neg, decide_eq_true_eq, Ev.s0 Kx, List.not_mem_nil, if_false]
 | y :: ys, x, h, h0, Kx, Kr => by
  obtain ⟨e1, e2, e3⟩ := qD h h0
  refine Ev.suc.trans ?_
  simp (disch := omega) only [Z76.l2, Z76.l2.b, if_pos, decide_eq_true_eq, qF, e2, qG, Ev.iteI, Ev.s1 Kr]
  rw [qLm hl ys (x + 1) e3 (by omega), Ev.s0 Kx, Ev.s1 Kr]
  by_cases hy : y = a
  ·subst hy; simp
  ·rw [if_neg hy]
   have : a ∈ y :: ys ↔ a ∈ ys := by simp [Ne.symm hy]
   simp only [this]
theorem qLn {l : List Int} {a : Int} (hl : l.length <= 1099511627776) (R : Nat -> Bool -> Prop) :
  Ev (fun n => Z76.c n l a (R n)) ↔ Ev (fun n => R n (decide (a ∈ l))) := by
 refine Ev.suc.trans ?_
 simp only [Z76.c, Z76.w]
 rw [qLm hl l 0 rfl (by omega) (fun n => R (n + 1) false) (fun n => R (n + 1)), Ev.s1 R, Ev.s1 R]
 by_cases h : a ∈ l
 ·rw [if_pos h, decide_eq_true h]
 ·rw [if_neg h, decide_eq_false h]
def ins (x : Int) (out : List Int) : List Int := out.filter (fun y => decide (y <= x)) ++ x :: out.filter (fun y => decide (x < y))
def zW : List Int -> List Int -> List Int
 | [], out => out
 | x :: r, out => zW r (if x ∈ out then out else ins x out)
def qBV (l : List Int) : List Int := zW l []
def kO (l : List Int) : Prop := l.Pairwise (· < ·)
theorem qFG {x : Int} {l : List Int} (h : kO l) (hx : x ∉ l) : kO (ins x l) := by
 unfold kO ins
 rw [List.pairwise_append]
 refine ⟨h.filter _, ?_, ?_⟩
 ·rw [List.pairwise_cons]
  refine ⟨fun y hy => ?_, h.filter _⟩
  simpa using (List.mem_filter.1 hy).2
 ·intro a ha b hb
  have h1 := List.mem_filter.1 ha
  have h2 := h1.2
  rw [decide_eq_true_eq] at h2
  have hne : a ≠ x := by rintro rfl; exact hx h1.1
  rcases List.mem_cons.1 hb with rfl | hb
  ·omega
  ·have h3 := (List.mem_filter.1 hb).2
   rw [decide_eq_true_eq] at h3
   omega
theorem qMg {x y : Int} {l : List Int} : y ∈ ins x l ↔ y = x \/ y ∈ l := by
 unfold ins
 simp only [List.mem_append, List.mem_cons, List.mem_filter, decide_eq_true_eq]
 constructor
 ·rintro (⟨h, _⟩ | h | ⟨h, _⟩)
  ·exact .inr h
  ·exact .inl h
  ·exact .inr h
 ·rintro (h | h)
  ·exact .inr (.inl h)
  ·by_cases hy : y <= x
   ·exact .inl ⟨h, hy⟩
   ·exact .inr (.inr ⟨h, by omega⟩)
theorem qBE (x : Int) : ∀ l : List Int, (l.filter fun y => decide (y <= x)).length + (l.filter fun y => decide (x < y)).length = l.length
 | [] => rfl
 | y :: l => by
  have := qBE x l
  by_cases h : y <= x
  ·have h' : ¬ x < y := by omega
   simp [h, h']; omega
  ·have h' : x < y := by omega
   simp [h, h']; omega
theorem qJv {x : Int} {l : List Int} : (ins x l).length = l.length + 1 := by
 have := qBE x l
 unfold ins
 rw [List.length_append, List.length_cons]; omega
theorem kV : ∀ {l out : List Int}, kO out -> kO (zW l out)
 | [], out, h => h
 | x :: l, out, h => by
  rw [zW]
  split
  ·exact kV h
  ·rename_i hx; exact kV (qFG h hx)
theorem qBZ {y : Int} : ∀ {l out : List Int}, y ∈ zW l out ↔ y ∈ out \/ y ∈ l
 | [], out => by simp [zW]
 | x :: l, out => by
  rw [zW, qBZ, List.mem_cons]
  split
  ·rename_i hx
   constructor
   ·rintro (h | h); exact .inl h; exact .inr (.inr h)
   ·rintro (h | rfl | h)
    ·exact .inl h
    ·exact .inl hx
    ·exact .inr h
  ·rw [qMg]
   constructor
   ·rintro ((h | h) | h)
    ·exact .inr (.inl h)
    ·exact .inl h
    ·exact .inr (.inr h)
   ·rintro (h | h | h)
    ·exact .inl (.inr h)
    ·exact .inl (.inl h)
    ·exact .inr h
theorem qCI : ∀ {l out : List Int}, (zW l out).length <= out.length + l.length
 | [], out => by simp [zW]
 | x :: l, out => by
  rw [zW]
  have := qCI (l := l) (out := if x ∈ out then out else ins x out)
  split at this
  ·rename_i hx; rw [if_pos hx]; simp only [List.length_cons]; omega
  ·rename_i hx; rw [if_neg hx]; rw [qJv] at this; simp only [List.length_cons]; omega
theorem qBU (l : List Int) : kO (qBV l) := kV (List.Pairwise.nil)
theorem qDQ {y : Int} {l : List Int} : y ∈ qBV l ↔ y ∈ l := by rw [qBV, qBZ]; simp
theorem qIR (l : List Int) : (qBV l).length <= l.length := by have := qCI (l := l) (out := []); simpa [qBV] using this
theorem kO.ext : ∀ {a b : List Int}, kO a -> kO b -> (∀ y, y ∈ a ↔ y ∈ b) -> a = b
 | [], [], _, _, _ => rfl
 | [], y :: b, _, _, h => by have := (h y).2 List.mem_cons_self; cases this
 | x :: a, [], _, _, h => by have := (h x).1 List.mem_cons_self; cases this
 | x :: a, y :: b, ha, hb, h => by
  rw [kO, List.pairwise_cons] at ha hb
  have hxy : x = y := by
   have h1 := (h x).1 List.mem_cons_self
   have h2 := (h y).2 List.mem_cons_self
   rcases List.mem_cons.1 h1 with h1 | h1
   ·exact h1
   ·rcases List.mem_cons.1 h2 with h2 | h2
    ·exact h2.symm
    ·have := ha.1 _ h2; have := hb.1 _ h1; omega
  subst hxy
  congr 1
  refine kO.ext ha.2 hb.2 fun z => ?_
  have hz := h z
  simp only [List.mem_cons] at hz
  constructor
  ·intro hm
   rcases hz.1 (.inr hm) with rfl | h'
   ·have := ha.1 _ hm; omega
   ·exact h'
  ·intro hm
   rcases hz.2 (.inr hm) with rfl | h'
   ·have := hb.1 _ hm; omega
   ·exact h'
theorem qPw {α : Type} [Inhabited α] {a z : List α} {v : α} {k : Int} (hk : k = (a.length : Int)) : rd (a ++ v :: z) k.toNat = v := by
 subst hk
 rw [Int.toNat_natCast, rd, List.getD_eq_getElem?_getD, List.getElem?_append_right (Nat.le_refl _), Nat.sub_self]; rfl
theorem qIT {l : List Int} {i x : Int} (hi0 : 0 <= i) (hi : i < (l.length : Int)) (hx : rd l i.toNat = x) : ∀ (m : Nat) (pre : List Int), pre.length = m -> m <= 1099511627776 -> kO pre -> ∀ (z : Int) (suf : List Int), ∃ z' : Int,
  ∀ (Kx : Nat -> List Int -> Int -> Int -> List Int -> Prop), (Ev (fun n => Z85.l8 n l i (pre.length : Int) (pre ++ z :: suf) (Kx n)) ↔
   Ev (fun n => Kx n l i ((pre.filter (fun y => decide (y <= x))).length : Int) (pre.filter (fun y => decide (y <= x)) ++ z' :: (pre.filter (fun y => decide (x < y)) ++ suf))))
 | 0, pre, hm, _, hp, z, suf => by
  have : pre = [] := List.eq_nil_of_length_eq_zero hm
  subst this
  refine ⟨z, fun Kx => ?_⟩
  refine Ev.suc.trans ?_
  simp (disch := (simp only [List.length_nil]; omega)) only [Z85.l8, Z85.l8.b, if_neg, decide_eq_true_eq, Ev.s4 Kx]
  simp
 | m + 1, pre, hm, hb, hp, z, suf => by
  obtain ⟨p, y, rfl⟩ : ∃ p y, pre = p ++ [y] := ⟨pre.dropLast, pre.getLast (by rintro rfl; simp at hm), (List.dropLast_concat_getLast _).symm⟩
  have hpl : p.length = m := by simpa using hm
  have hpp : kO p := (List.pairwise_append.1 hp).1
  have hall : ∀ a ∈ p, a < y := fun a ha => (List.pairwise_append.1 hp).2.2 a ha y (by simp)
  have e1 : IntKind.wrap .i64 (((p ++ [y]).length : Int) - 1) = (p.length : Int) := by simp only [List.length_append, List.length_cons, List.length_nil]; rw [qG (by omega) (by omega)]; omega
  have e2 : (p ++ [y]) ++ z :: suf = p ++ y :: (z :: suf) := by simp
  have e3 : rd ((p ++ [y]) ++ z :: suf) (p.length : Int).toNat = y := by rw [e2]; exact qPw rfl
  have e4 : (((p ++ [y]) ++ z :: suf).length : Int) = (p.length : Int) + 1 + 1 + (suf.length : Int) := by simp; omega
  have hpos : ((p ++ [y]).length : Int) > 0 := by simp only [List.length_append, List.length_cons, List.length_nil]; omega
  by_cases h : y > x
  ·obtain ⟨z', k⟩ := qIT hi0 hi hx m p hpl (by omega) hpp y (y :: suf)
   refine ⟨z', fun Kx => ?_⟩
   have f1 : (p ++ [y]).filter (fun y => decide (y <= x)) = p.filter (fun y => decide (y <= x)) := by
    have : ¬ y <= x := by omega
    simp [List.filter_append, this]
   have f2 : (p ++ [y]).filter (fun y => decide (x < y)) = p.filter (fun y => decide (x < y)) ++ [y] := by
    have : x < y := by omega
    simp [List.filter_append, this]
   have es : List.set ((p ++ [y]) ++ z :: suf) ((p ++ [y]).length : Int).toNat y = p ++ y :: (y :: suf) := by
    rw [Int.toNat_natCast, List.set_append_right _ _ (Nat.le_refl _), Nat.sub_self, List.set_cons_zero]; simp
   rw [f1, f2]
   refine Ev.suc.trans ?_
   simp (disch := (simp only [List.length_append, List.length_cons, List.length_nil] at *; omega)) only [Z85.l8, Z85.l8.b, Z85.j1, if_pos, decide_eq_true_eq, Ev.iteI, e1, e3, e4, hx, qF, es]
   rw [k, Ev.s4 Kx]
   simp
  ·have f1 : (p ++ [y]).filter (fun y => decide (y <= x)) = p ++ [y] := by
    rw [List.filter_eq_self]
    intro a ha
    rcases List.mem_append.1 ha with ha | ha
    ·have := hall a ha; rw [decide_eq_true_eq]; omega
    ·rw [List.mem_singleton] at ha; subst ha; rw [decide_eq_true_eq]; omega
   have f2 : (p ++ [y]).filter (fun y => decide (x < y)) = [] := by
    rw [List.filter_eq_nil_iff]
    intro a ha
    rcases List.mem_append.1 ha with ha | ha
    ·have := hall a ha; rw [decide_eq_true_eq]; omega
    ·rw [List.mem_singleton] at ha; subst ha; rw [decide_eq_true_eq]; omega
   refine ⟨z, fun Kx => ?_⟩
   rw [f1, f2, List.nil_append]
   refine Ev.suc.trans ?_
   simp (disch := (simp only [List.length_append, List.length_cons, List.length_nil] at *; omega)) only [Z85.l8, Z85.l8.b, if_pos, if_neg, decide_eq_true_eq, Ev.iteI, e1, e3, e4, hx, qF, Ev.s4 Kx]
theorem qCH {l : List Int} (hl : l.length <= 1048576) : ∀ (ys : List Int) (x : Int) (out : List Int), l.drop x.toNat = ys -> 0 <= x -> kO out -> out.length + ys.length <= 1048576 -> ∀ (Kx : Nat -> List Int -> Prop),
  (Ev (fun n => Z85.l3 n l x out (Kx n)) ↔ Ev (fun n => Kx n (zW ys out)))
 | [], x, out, h, h0, ho, hb, Kx => by
  have := qJ h h0
  refine Ev.suc.trans ?_
  simp (disch := omega) only [Z85.l3, Z85.l3.b, if_neg, decide_eq_true_eq, Ev.s1 Kx, zW]
 | y :: ys, x, out, h, h0, ho, hb, Kx => by
  obtain ⟨e1, e2, e3⟩ := qD h h0
  rw [List.length_cons] at hb
  rw [zW]
  refine Ev.suc.trans ?_
  simp (disch := omega) only [Z85.l3, Z85.l3.b, if_pos, decide_eq_true_eq, qF, e2, qG, qLn, Ev.iteI]
  by_cases hy : y ∈ out
  ·rw [if_pos hy, if_pos hy, qCH hl ys (x + 1) out e3 (by omega) ho (by omega), Ev.s1 Kx]
  ·rw [if_neg hy, if_neg hy]
   obtain ⟨z', k⟩ := qIT h0 e1 e2 out.length out rfl (by omega) ho y []
   have hf := qBE y out
   have hins : List.set (out.filter (fun w => decide (w <= y)) ++ z' :: (out.filter (fun w => decide (y < w)) ++ [])) ((out.filter (fun w => decide (w <= y))).length : Int).toNat y = ins y out := by
    rw [Int.toNat_natCast, List.set_append_right _ _ (Nat.le_refl _), Nat.sub_self, List.set_cons_zero, List.append_nil]; rfl
   simp (disch := first | omega | (simp only [List.length_append, List.length_cons, List.length_nil]; omega)) only [kL, k, qF, e2, hins, qG]
   rw [qCH hl ys (x + 1) _ e3 (by omega) (qFG ho hy) (by rw [qJv]; omega), Ev.s1 Kx]
theorem qIS {l : List Int} (hl : l.length <= 1048576) (R : Nat -> List Int -> Prop) :
  Ev (fun n => Z85.c n l (R n)) ↔ Ev (fun n => R n (qBV l)) := by
 refine Ev.suc.trans ?_
 simp only [Z85.c, Z85.w]
 rw [qCH hl l 0 [] rfl (by omega) List.Pairwise.nil (by simpa using hl), Ev.s1 R]; rfl
def qGe (p : Int) : List Int -> List Int
 | [] => []
 | y :: r => if y = p then qGe p r else y :: qGe y r
def vV : List Int -> List Int
 | [] => []
 | a :: r => a :: qGe a r
theorem qCq {z : Int} : ∀ {l : List Int} {p : Int}, z ∈ p :: qGe p l ↔ z ∈ p :: l
 | [], _ => Iff.rfl
 | y :: r, p => by
  unfold qGe
  split
  ·rename_i h
   subst h
   rw [qCq]; simp
  ·have := qCq (z := z) (l := r) (p := y)
   rw [List.mem_cons, this, <- List.mem_cons]
theorem qBI : ∀ {l : List Int} {p : Int}, (p :: l).Pairwise (· <= ·) -> kO (p :: qGe p l)
 | [], p, _ => by simp [kO, qGe]
 | y :: r, p, h => by
  rw [List.pairwise_cons] at h
  have hy := List.pairwise_cons.1 h.2
  unfold qGe
  split
  ·rename_i e
   subst e
   exact qBI h.2
  ·rename_i e
   have ih := qBI h.2
   unfold kO at ih ⊢
   rw [List.pairwise_cons]
   refine ⟨fun z hz => ?_, ih⟩
   have h1 := h.1 y List.mem_cons_self
   rw [qCq] at hz
   rcases List.mem_cons.1 hz with rfl | hz
   ·omega
   ·have := hy.1 z hz; omega
theorem qGs {z : Int} : ∀ {l : List Int}, z ∈ vV l ↔ z ∈ l
 | [] => Iff.rfl
 | a :: l => qCq
theorem qEL : ∀ {l : List Int}, l.Pairwise (· <= ·) -> kO (vV l)
 | [], _ => List.Pairwise.nil
 | a :: l, h => qBI h
theorem qIG (l : List Int) : (srt l).length = l.length := by simp [srt]
theorem qMf {z : Int} {l : List Int} : z ∈ srt l ↔ z ∈ l := by simp [srt]
theorem qHQ (l : List Int) : (srt l).Pairwise (· <= ·) := by
 have := List.pairwise_mergeSort (le := fun x y : Int => decide (x <= y)) (fun a b c h1 h2 => by simp at *; omega) (fun a b => by simp; omega) l
 exact this.imp fun h => by simpa using h
theorem qCy {l l' : List Int} (h : kO l') (hm : ∀ z, z ∈ l' ↔ z ∈ l) : vV (srt l) = l' :=
 kO.ext (qEL (qHQ l)) h fun z => by rw [qGs, qMf, hm]
theorem qII {l : List Int} (hl : l.length <= 1099511627776) (R : Nat -> List Int -> Prop) : Ev (fun n => Z65.c n l (R n)) ↔ Ev (fun n => R n (srt l)) := by
 refine Ev.suc.trans ?_
 simp (disch := omega) only [Z65.c, Z65.w, kL, Ev.s1 R]
theorem qAP {s : List Int} (hs : s.length <= 1099511627776) {lo : Nat} : ∀ (ys : List Int) (k2 k : Nat) (row : List Int), s.drop (lo + k2) = ys -> 1 <= k2 -> row.length = s.length -> (∀ i, lo + k2 - 1 <= i -> rd row i = rd s i) -> k <= lo + k2 - 1 -> lo + k2 <= s.length ->
  ∀ Kx : Nat -> Int -> List Int -> Prop, (∀ (k' : Nat) (row' : List Int), row'.length = s.length -> k' <= s.length -> row'.take k' = row.take k ++ qGe (rd s (lo + k2 - 1)) ys -> Ev (fun n => Kx n k' row')) ->
  Ev (fun n => Z59.l9 n lo s.length k k2 row (Kx n))
 | [], k2, k, row, h, h1, hl, he, hk, hb, Kx, hx => by
  have := List.drop_eq_nil_iff.1 h
  refine Ev.succ ?_
  simp only [Z59.l9, Z59.l9.b]
  refine Ev.neg (by simp; omega) (hx k row hl (by omega) ?_).shift
  rw [qGe, List.append_nil]
 | y :: ys, k2, k, row, h, h1, hl, he, hk, hb, Kx, hx => by
  obtain ⟨c1, c2, c3⟩ := qD (x := ((lo + k2 : Nat) : Int)) (by rw [Int.toNat_natCast]; exact h) (by omega)
  rw [Int.toNat_natCast] at c2
  have c3' : s.drop (lo + (k2 + 1)) = ys := by rw [show (((lo + k2 : Nat) : Int) + 1).toNat = lo + (k2 + 1) from by omega] at c3; exact c3
  have r1 := he (lo + k2) (by omega)
  have r2 := he (lo + k2 - 1) (by omega)
  refine Ev.succ ?_
  simp only [Z59.l9, Z59.l9.b]
  rw [qG (x := (k2 : Int) - 1) (by omega) (by omega), qG (x := (k2 : Int) + 1) (by omega) (by omega), qG (x := (k : Int) + 1) (by omega) (by omega)]
  rw [show lo + ((k2 : Int) - 1).toNat = lo + k2 - 1 from by omega, Int.toNat_natCast, Int.toNat_natCast, r1, r2, c2]
  have e2 : (k2 : Int) + 1 = ((k2 + 1 : Nat) : Int) := by omega
  have e1 : (k : Int) + 1 = ((k + 1 : Nat) : Int) := by omega
  rw [e1, e2]
  refine Ev.pos (by simp; omega) (Ev.grd (by simp; omega) (Ev.grd (by simp; omega) ?_))
  by_cases hy : y = rd s (lo + k2 - 1)
  ·refine Ev.neg (by simpa using hy) ?_
   have ep : rd s (lo + (k2 + 1) - 1) = rd s (lo + k2 - 1) := by rw [show lo + (k2 + 1) - 1 = lo + k2 from by omega, c2, hy]
   refine qAP hs ys (k2 + 1) k row c3' (by omega) hl (fun i hi => he i (by omega)) (by omega) (by omega) (fun n => Kx (n + 1)) fun k' row' g1 g2 g3 => (hx k' row' g1 g2 ?_).shift
   rw [g3, ep, qGe, if_pos hy]
  ·refine Ev.pos (by simpa using hy) (Ev.grd (by simp; omega) (Ev.grd (by simp; omega) ?_))
   have ep : rd s (lo + (k2 + 1) - 1) = y := by rw [show lo + (k2 + 1) - 1 = lo + k2 from by omega, c2]
   refine qAP hs ys (k2 + 1) (k + 1) (row.set k y) c3' (by omega) (by rw [List.length_set]; exact hl) (fun i hi => ?_) (by omega) (by omega) (fun n => Kx (n + 1)) fun k' row' g1 g2 g3 => (hx k' row' g1 g2 ?_).shift
   ·rw [<- he i (by omega)]
    simp only [rd, List.getD_eq_getElem?_getD, List.getElem?_set]
    rw [if_neg (by omega)]
   ·rw [g3, ep, qGe, if_neg hy]
    have := zR (l := row) (x := (k : Int)) (v := y) (by omega) (by omega)
    rw [show ((k : Int) + 1).toNat = k + 1 from by omega, Int.toNat_natCast] at this
    rw [this, List.append_assoc]; rfl
theorem qD8 {s : List Int} (hs : s.length <= 1099511627776) : ∀ (ys : List Int) (k : Nat), s.drop k = ys -> 1 <= k -> k <= s.length -> vV s = s.take k ++ qGe (rd s (k - 1)) ys -> ∀ (Kx : Nat -> List Int -> Prop) (Kr : Nat -> Nat -> Nat -> List Int -> Prop),
  (vV s = s -> Ev (fun n => Kx n s)) -> (∀ a (k : Nat) (row : List Int), row.take k = vV s -> Ev (fun n => Kr n a k row)) ->
  Ev (fun n => Z59.l4 n s k (Kx n) (Kr n))
 | [], k, h, h1, hk, hc, Kx, Kr, hx, hr => by
  have := List.drop_eq_nil_iff.1 h
  refine Ev.succ ?_
  simp only [Z59.l4, Z59.l4.b]
  refine Ev.neg (by simp; omega) (hx ?_).shift
  rw [hc, qGe, List.append_nil, List.take_of_length_le (by omega)]
 | y :: ys, k, h, h1, hk, hc, Kx, Kr, hx, hr => by
  obtain ⟨c1, c2, c3⟩ := qD (x := (k : Int)) (by rw [Int.toNat_natCast]; exact h) (by omega)
  rw [Int.toNat_natCast] at c2
  have c3' : s.drop (k + 1) = ys := by rw [show ((k : Int) + 1).toNat = k + 1 from by omega] at c3; exact c3
  refine Ev.succ ?_
  simp only [Z59.l4, Z59.l4.b]
  rw [qG (x := (k : Int) - 1) (by omega) (by omega), qG (x := (k : Int) + 1) (by omega) (by omega)]
  rw [show ((k : Int) - 1).toNat = k - 1 from by omega, Int.toNat_natCast, Int.toNat_natCast, c2]
  refine Ev.pos (by simp; omega) (Ev.grd (by simp; omega) (Ev.grd (by simp; omega) ?_))
  by_cases hy : y = rd s (k - 1)
  ·refine Ev.pos (by simpa using hy) (Ev.grd (by simp; omega) ?_)
   have ep : rd s (k + 1 - 1) = rd s (k - 1) := by rw [show k + 1 - 1 = k from by omega, c2, hy]
   have := qAP hs (lo := k) ys 1 k s c3' (by omega) rfl (fun _ _ => rfl) (by omega) (by omega) (fun n y65 y66 => grd ((decide (0 <= y65) && true) && decide (y65 <= (y66.length : Int))) (let t67 : List Int := List.take (Int.toNat y65) y66 ++ List.replicate ((Int.toNat (y66.length : Int)) - (Int.toNat y65)) 0 ++ List.drop (Int.toNat (y66.length : Int)) y66; grd ((decide (0 <= y65) && decide (y65 <= (t67.length : Int))) && decide (0 <= y65)) (Kr (n + 1) 0 (Int.toNat y65) t67))) fun k' row' g1 g2 g3 => ?_
   ·exact this
   ·rw [Int.toNat_natCast, Int.toNat_natCast]
    refine Ev.grd (by simp; omega) (Ev.grd (by simp; omega) (hr 0 k' _ ?_).shift)
    rw [List.append_assoc, List.take_left' (by rw [List.length_take]; omega), g3, ep, hc, qGe, if_pos hy]
  ·refine Ev.neg (by simpa using hy) ?_
   have e1 : (k : Int) + 1 = ((k + 1 : Nat) : Int) := by omega
   rw [e1]
   refine qD8 hs ys (k + 1) c3' (by omega) (by omega) ?_ (fun n => Kx (n + 1)) (fun n => Kr (n + 1)) (fun e => (hx e).shift) (fun a k row e => (hr a k row e).shift)
   rw [hc, qGe, if_neg hy, show k + 1 - 1 = k from by omega, c2, List.take_succ_eq_append_getElem (by omega), List.append_assoc]
   have : s[k]'(by omega) = y := by rw [<- c2, rd, List.getD_eq_getElem?_getD, List.getElem?_eq_getElem (by omega)]; rfl
   rw [this]; rfl
theorem qD7 {s : List Int} (hs : s.length <= 1099511627776) (R : Nat -> List Int -> Prop) (hR : Ev fun n => R n (vV s)) : Ev (fun n => Z59.c n s (R n)) := by
 refine Ev.succ ?_
 simp only [Z59.c, Z59.w]
 by_cases h : s.length < 2
 ·refine Ev.pos (by simp; omega) ?_
  have : vV s = s := by
   match s, h with
   | [], _ => rfl
   | [a], _ => rfl
  rw [this] at hR; exact hR.shift
 ·refine Ev.neg (by simp; omega) ?_
  refine qD8 hs (s.drop 1) 1 rfl (by omega) (by omega) ?_ (fun n => R (n + 1)) (fun n y73 y74 y75 => R (n + 1) (List.take y74 y75)) (fun e => by rw [e] at hR; exact hR.shift) (fun a k row e => by rw [e]; exact hR.shift)
  match s, h with
  | a :: b, _ => rfl
def qIo (t : List qB) (v : Int) : Bool := t.any fun x => decide (x.1 = 1) && decide (x.2.1 = v)
def yB (t : List qB) : Nat -> Int -> List Int
 | 0, _ => []
 | m + 1, v => if qIo t v = true then v :: yB t m (v + 1) else yB t m (v + 1)
def vsT : List qB -> List Int
 | [] => []
 | x :: r => if x.1 = 1 then x.2.1 :: vsT r else vsT r
def qAs (d : List qP) (t : List qB) : List Int := yB t d.length 0
def qG0 (d : List qP) (t : List qB) : List Int := if xK d t < 0 then [] else qAs d t
theorem yE {t : List qB} {z : Int} : ∀ {m : Nat} {v : Int}, z ∈ yB t m v ↔ v <= z /\ z < v + m /\ qIo t z = true
 | 0, v => by simp [yB]; omega
 | m + 1, v => by
  have ih := yE (t := t) (z := z) (m := m) (v := v + 1)
  unfold yB
  by_cases h : qIo t v = true
  ·rw [if_pos h, List.mem_cons, ih]
   constructor
   ·rintro (rfl | ⟨h1, h2, h3⟩)
    ·exact ⟨by omega, by omega, h⟩
    ·exact ⟨by omega, by omega, h3⟩
   ·rintro ⟨h1, h2, h3⟩
    by_cases e : z = v
    ·exact .inl e
    ·exact .inr ⟨by omega, by omega, h3⟩
  ·rw [if_neg h, ih]
   constructor
   ·rintro ⟨h1, h2, h3⟩; exact ⟨by omega, by omega, h3⟩
   ·rintro ⟨h1, h2, h3⟩
    have : z ≠ v := fun e => h (e ▸ h3)
    exact ⟨by omega, by omega, h3⟩
theorem qBS {t : List qB} : ∀ {m : Nat} {v : Int}, kO (yB t m v)
 | 0, v => List.Pairwise.nil
 | m + 1, v => by
  have ih := qBS (t := t) (m := m) (v := v + 1)
  unfold yB
  split
  ·unfold kO at ih ⊢
   rw [List.pairwise_cons]
   exact ⟨fun z hz => by have := (yE.1 hz).1; omega, ih⟩
  ·exact ih
theorem vY {t : List qB} : ∀ {m : Nat} {v : Int}, (yB t m v).length <= m
 | 0, v => Nat.le_refl _
 | m + 1, v => by
  have := vY (t := t) (m := m) (v := v + 1)
  unfold yB
  split
  ·rw [List.length_cons]; omega
  ·omega
theorem qJe {z : Int} : ∀ {t : List qB}, z ∈ vsT t ↔ qIo t z = true
 | [] => by simp [vsT, qIo]
 | x :: r => by
  have ih := qJe (z := z) (t := r)
  have hc : qIo (x :: r) z = true ↔ (x.1 = 1 /\ x.2.1 = z) \/ qIo r z = true := by
   unfold qIo
   rw [List.any_cons, Bool.or_eq_true, Bool.and_eq_true, decide_eq_true_eq, decide_eq_true_eq]
  rw [hc]
  unfold vsT
  split
  ·rename_i h
   rw [List.mem_cons, ih]
   exact or_congr ⟨fun e => ⟨h, e.symm⟩, fun e => e.2.symm⟩ Iff.rfl
  ·rename_i h
   rw [ih]
   exact ⟨.inr, fun e => e.elim (fun e => absurd e.1 h) id⟩
theorem qIv : ∀ {t : List qB}, (vsT t).length <= t.length
 | [] => Nat.le_refl _
 | x :: r => by
  have := qIv (t := r)
  unfold vsT
  split
  ·simp only [List.length_cons]; omega
  ·simp only [List.length_cons]; omega
theorem qAW {d : List qP} : ∀ {ys : List qB} {wide : List Int} {used : List Bool} {r : List Int × List Bool}, jP d ys wide used = some r -> ∀ x ∈ ys, x.1 = 1 -> 0 <= x.2.1 /\ x.2.1 < (d.length : Int)
 | [], _, _, _, _, x, hx, _ => by cases hx
 | y :: ys, wide, used, r, h, x, hx, h1 => by
  rw [jP] at h
  cases hs : qAF d y wide with
  | none => rw [hs] at h; cases h
  | some w =>
   rw [hs] at h
   rcases List.mem_cons.1 hx with rfl | hx
   ·unfold qAF at hs
    split at hs
    ·rename_i hk
     have h2 := hk.2.2
     unfold kZ at h2
     rw [decide_eq_true_eq] at h2
     omega
    ·cases hs
   ·exact qAW h x hx h1
theorem qAa {d : List qP} {t : List qB} (h : ¬ jG d t < 0) : (∀ x ∈ t, x.1 = 1 -> 0 <= x.2.1 /\ x.2.1 < (d.length : Int)) /\ t.length <= 400 := by
 unfold jG at h
 by_cases h2 : (zP d t).2 = true
 rotate_left
 ·rw [if_neg h2] at h; omega
 have hle := (qBr h2).2.2.2
 refine ⟨?_, hle⟩
 unfold zP at h2
 split at h2
 ·cases hg : jP d t [] (List.replicate t.length false) with
  | none => rw [hg] at h2; cases h2
  | some r => exact qAW hg
 ·cases h2
theorem qGY {d : List qP} {t : List qB} (h : ¬ jG d t < 0) : vV (srt (vsT t)) = qAs d t := by
 refine qCy qBS fun z => ?_
 unfold qAs
 rw [yE, qJe]
 refine ⟨fun hz => hz.2.2, fun hz => ?_⟩
 have hz' := hz
 unfold qIo at hz'
 rw [List.any_eq_true] at hz'
 obtain ⟨x, hx, e⟩ := hz'
 rw [Bool.and_eq_true, decide_eq_true_eq, decide_eq_true_eq] at e
 have := (qAa h).1 x hx e.1
 rw [e.2] at this
 exact ⟨by omega, by omega, hz⟩
theorem qIw {t : List qB} (ht : t.length <= 1048576) : ∀ (ys : List qB) (x : Int) (o : List Int), t.drop x.toNat = ys -> 0 <= x -> o.length + ys.length <= 1048576 -> ∀ (Kx : Nat -> List Int -> Prop),
  Ev (fun n => Kx n (o ++ vsT ys)) -> Ev (fun n => Z14.l3 n t t.length x o (Kx n))
 | [], x, o, h, h0, ho, Kx, hx => by
  have := qJ h h0
  refine Ev.succ ?_
  simp only [Z14.l3, Z14.l3.b]
  rw [vsT, List.append_nil] at hx
  exact Ev.neg (by simp; omega) hx.shift
 | y :: ys, x, o, h, h0, ho, Kx, hx => by
  obtain ⟨e1, e2, e3⟩ := qD h h0
  rw [List.length_cons] at ho
  refine Ev.succ ?_
  simp only [Z14.l3, Z14.l3.b]
  rw [e2, qG (x := x + 1) (by omega) (by omega)]
  unfold vsT at hx
  refine Ev.pos (by simp; omega) (Ev.grd (by simp; omega) ?_)
  by_cases h1 : y.1 = 1
  ·rw [if_pos h1] at hx
   refine Ev.pos (by simpa using h1) (Ev.grd (by simp; omega) (qIw ht ys (x + 1) (o ++ [y.2.1]) e3 (by omega) (by simp; omega) (fun n => Kx (n + 1)) ?_))
   rw [List.append_assoc]; exact hx.shift
  ·rw [if_neg h1] at hx
   exact Ev.neg (by simpa using h1) (qIw ht ys (x + 1) o e3 (by omega) (by omega) (fun n => Kx (n + 1)) hx.shift)
theorem qLc {t : List qB} (ht : t.length <= 1048576) (R : Nat -> List Int -> Prop) (hR : Ev fun n => R n (vV (srt (vsT t)))) : Ev (fun n => Z14.c n t (R n)) := by
 have hv := qIv (t := t)
 refine Ev.succ ?_
 simp only [Z14.c, Z14.w]
 refine qIw ht t 0 [] rfl (by omega) (by simp; omega) (fun n y19 => _) ?_
 rw [List.nil_append, qII (by omega)]
 exact qD7 (by rw [qIG]; omega) _ hR.shift
theorem qIy {d : List qP} {v : Int} {o : List Int} (ho : o.length <= 1048576) {t : List qB} (ht : t.length <= 1048576) : ∀ (ys : List qB) (x : Int), t.drop x.toNat = ys -> 0 <= x -> ∀ Kx : Nat -> List qP -> Int -> List Int -> List qB -> Prop,
  Ev (fun n => Kx n d v (if qIo ys v = true then o ++ [v] else o) t) -> Ev (fun n => Z70.l8 n d v o t x (Kx n))
 | [], x, h, h0, Kx, hx => by
  have := qJ h h0
  refine Ev.succ ?_
  simp only [Z70.l8, Z70.l8.b]
  exact Ev.neg (by simp; omega) hx.shift
 | y :: ys, x, h, h0, Kx, hx => by
  obtain ⟨e1, e2, e3⟩ := qD h h0
  have ih := qIy ho ht ys (x + 1) e3 (by omega) (fun n => Kx (n + 1)) (d := d) (v := v) (o := o)
  refine Ev.succ ?_
  simp only [Z70.l8, Z70.l8.b, Z70.j1]
  rw [e2, qG (x := x + 1) (by omega) (by omega)]
  simp only [qIo, List.any_cons] at hx
  refine Ev.pos (by simp; omega) (Ev.grd (by simp; omega) ?_)
  by_cases h1 : y.1 = 1
  ·refine Ev.pos (by simpa using h1) (Ev.grd (by simp; omega) ?_)
   by_cases h2 : y.2.1 = v
   ·refine Ev.pos (by simpa using h2) (Ev.grd (by simp; omega) ?_)
    simp only [h1, h2, decide_true, Bool.and_self, Bool.true_or, if_true] at hx
    exact hx.shift
   ·refine Ev.neg (by simpa using h2) (ih ?_)
    simp only [h1, h2, decide_true, decide_false, Bool.and_false, Bool.false_or] at hx
    exact hx.shift
  ·refine Ev.neg (by simpa using h1) (Ev.neg (by simp) (ih ?_))
   simp only [h1, decide_false, Bool.false_and, Bool.false_or] at hx
   exact hx.shift
theorem qEj {d : List qP} (hd : d.length <= 1048576) {t : List qB} (ht : t.length <= 1048576) : ∀ (m : Nat) (v : Int) (o : List Int), v + m = d.length -> 0 <= v -> o.length <= v -> ∀ Kx : Nat -> List Int -> Prop,
  Ev (fun n => Kx n (o ++ yB t m v)) -> Ev (fun n => Z70.l5 n d v o t (Kx n))
 | 0, v, o, h, h0, ho, Kx, hx => by
  refine Ev.succ ?_
  simp only [Z70.l5, Z70.l5.b]
  rw [yB, List.append_nil] at hx
  exact Ev.neg (by simp; omega) hx.shift
 | m + 1, v, o, h, h0, ho, Kx, hx => by
  refine Ev.succ ?_
  simp only [Z70.l5, Z70.l5.b]
  refine Ev.pos (by simp; omega) (qIy (by omega) ht t 0 rfl (by omega) (fun n y47 y48 y49 y50 => _) ?_)
  rw [qG (x := v + 1) (by omega) (by omega)]
  unfold yB at hx
  by_cases hv : qIo t v = true
  ·rw [if_pos hv] at hx ⊢
   refine qEj hd ht m (v + 1) (o ++ [v]) (by omega) (by omega) (by simp; omega) (fun n => Kx (n + 1)) ?_
   rw [List.append_assoc]; exact hx.shift
  ·rw [if_neg hv] at hx ⊢
   exact qEj hd ht m (v + 1) o (by omega) (by omega) (by omega) (fun n => Kx (n + 1)) hx.shift
theorem qGZ {d : List qP} {t : List qB} (hd : d.length <= 1048576) (hg : ∀ x : qB, x ∈ t -> Wd x.2.2.2.2.2.1 /\ x.2.2.2.2.2.2.length <= 1099511627776) (R : Nat -> List Int -> Prop) (hR : Ev fun n => R n (qG0 d t)) : Ev (fun n => Z70.c n d t (R n)) := by
 refine Ev.succ ?_
 simp only [Z70.c, Z70.w]
 rw [qAD (by omega) hg]
 unfold qG0 at hR
 by_cases h : xK d t < 0
 ·rw [if_pos h] at hR
  exact Ev.pos (by simpa using h) hR.shift
 ·rw [if_neg h] at hR
  have hi : ¬ jG d t < 0 := by
   unfold xK at h
   split at h
   ·exact h
   ·omega
  have hl := (qAa hi).2
  refine Ev.neg (by simpa using h) (qEj hd (by omega) d.length 0 [] (by omega) (by omega) (by simp) (fun n y52 => R (n + 1) y52) ?_)
  rw [List.nil_append]; exact hR.shift
def vI (d : List qP) (y : qA) : List Int := qBV (qAs d y.2.2.1 ++ qAs d y.2.2.2)
theorem qBv {α : Type} [Inhabited α] {l : List α} {i : Nat} (h : i < l.length) : rd l i ∈ l := by
 rw [rd, List.getD_eq_getElem?_getD, List.getElem?_eq_getElem h]; exact List.getElem_mem _
theorem qIz {d : List qP} {y : qA} : (vI d y).length <= 2 * d.length := by
 have h1 := qIR (qAs d y.2.2.1 ++ qAs d y.2.2.2)
 have h2 : (qAs d y.2.2.1).length <= d.length := vY
 have h3 : (qAs d y.2.2.2).length <= d.length := vY
 unfold vI; rw [List.length_append] at h1; omega
theorem qGr {l : List Int} : vV (srt l) = qBV l := qCy (qBU l) fun z => qDQ
theorem qFB {d : List qP} : ∀ {ys : List qA} {b : Int}, xT d ys b = true -> (∀ y ∈ ys, b < y.1 /\ ¬ jG d y.2.2.1 < 0 /\ ¬ jG d y.2.2.2 < 0) /\ ys.Pairwise (fun a b => a.1 < b.1)
 | [], b, _ => ⟨fun y hy => absurd hy (by simp), List.Pairwise.nil⟩
 | x :: ys, b, h => by
  rw [xT] at h
  simp only [Bool.and_eq_true, decide_eq_true_eq, Bool.not_eq_true', decide_eq_false_iff_not] at h
  obtain ⟨g1, g2⟩ := qFB h.2
  refine ⟨fun y hy => ?_, List.pairwise_cons.2 ⟨fun y hy => (g1 y hy).1, g2⟩⟩
  rcases List.mem_cons.1 hy with rfl | hy
  ·exact ⟨by omega, h.1.1.2, by rw [<- h.1.2]; exact h.1.1.2⟩
  ·have := g1 y hy; exact ⟨by omega, this.2⟩
theorem qBA {d : List qP} {l : List qA} (h : qAy d l = true) : d.length <= 60 /\ zN d = true /\ l.length <= 60 /\ (∀ y ∈ l, ¬ jG d y.2.2.1 < 0 /\ ¬ jG d y.2.2.2 < 0) /\ l.Pairwise (fun a b => a.1 < b.1) := by
 unfold qAy qJm at h
 rw [Bool.and_eq_true, Bool.and_eq_true, decide_eq_true_eq] at h
 obtain ⟨g1, g2⟩ := qFB h.2.2
 have hd := h.1
 unfold zN at hd
 rw [Bool.and_eq_true, decide_eq_true_eq] at hd
 exact ⟨hd.1, h.1, h.2.1, fun y hy => (g1 y hy).2, g2⟩
theorem qD6 {x9 l : List (List Int)} (hl : l.length <= 1000) (hb : ∀ z ∈ l, z.length <= 1000000) : ∀ (ys : List (List Int)) (x s : Int), l.drop x.toNat = ys -> 0 <= x -> x + ys.length = l.length -> 0 <= s -> s <= 1000000 * x -> ∀ Kx : Nat -> List (List Int) -> Int -> Prop,
  (∀ s : Int, 0 <= s -> s <= 1000000000 -> Ev (fun n => Kx n x9 s)) -> Ev (fun n => Z60.l3 n x9 l l.length s x (Kx n))
 | [], x, s, h, h0, hx0, hs, hs', Kx, hx => by
  rw [List.length_nil] at hx0
  refine Ev.succ ?_
  simp only [Z60.l3, Z60.l3.b]
  exact Ev.neg (by simp; omega) (hx s hs (by omega)).shift
 | y :: ys, x, s, h, h0, hx0, hs, hs', Kx, hx => by
  obtain ⟨e1, e2, e3⟩ := qD h h0
  have hy := hb y (e2 ▸ qBv (by omega))
  rw [List.length_cons] at hx0
  refine Ev.succ ?_
  simp only [Z60.l3, Z60.l3.b]
  rw [e2, qG (x := x + 1) (by omega) (by omega), qG (x := s + (y.length : Int)) (by omega) (by omega)]
  exact Ev.pos (by simp; omega) (Ev.grd (by simp; omega) (Ev.neg (by simp; omega) (qD6 hl hb ys (x + 1) _ e3 (by omega) (by omega) (by omega) (by omega) (fun n => Kx (n + 1)) fun s h1 h2 => (hx s h1 h2).shift)))
theorem qD5 {l : List (List Int)} (hl : l.length <= 1000) (hb : ∀ z ∈ l, z.length <= 1000000) : ∀ (ys : List (List Int)) (x : Int) (o : List Int), l.drop x.toNat = ys -> 0 <= x -> x + ys.length = l.length -> (o.length : Int) <= 1000000 * x -> ∀ Kx : Nat -> List Int -> Prop,
  Ev (fun n => Kx n (o ++ ys.flatten)) -> Ev (fun n => Z60.l11 n l l.length x o (Kx n))
 | [], x, o, h, h0, hx0, ho, Kx, hx => by
  rw [List.length_nil] at hx0
  refine Ev.succ ?_
  simp only [Z60.l11, Z60.l11.b]
  rw [List.flatten_nil, List.append_nil] at hx
  exact Ev.neg (by simp; omega) hx.shift
 | y :: ys, x, o, h, h0, hx0, ho, Kx, hx => by
  obtain ⟨e1, e2, e3⟩ := qD h h0
  have hy := hb y (e2 ▸ qBv (by omega))
  rw [List.length_cons] at hx0
  refine Ev.succ ?_
  simp only [Z60.l11, Z60.l11.b]
  rw [e2, qG (x := x + 1) (by omega) (by omega)]
  refine Ev.pos (by simp; omega) (Ev.grd (by simp; omega) (Ev.grd (by simp; omega) (qD5 hl hb ys (x + 1) (o ++ y) e3 (by omega) (by omega) (by rw [List.length_append]; omega) (fun n => Kx (n + 1)) ?_)))
  rw [List.flatten_cons, <- List.append_assoc] at hx
  exact hx.shift
theorem qJW {a b : List Int} (ha : a.length <= 1000000) (hb : b.length <= 1000000) (R : Nat -> List Int -> Prop) (hR : Ev fun n => R n (a ++ b)) : Ev (fun n => Z60.c n [a, b] (R n)) := by
 have hz : ∀ z ∈ [a, b], z.length <= 1000000 := fun z hz => by
  simp only [List.mem_cons, List.not_mem_nil, or_false] at hz
  rcases hz with rfl | rfl
  ·exact ha
  ·exact hb
 refine Ev.succ ?_
 simp only [Z60.c, Z60.w]
 refine qD6 (by simp) hz [a, b] 0 0 rfl (by omega) (by simp) (by omega) (by omega) (fun n y18 y19 => _) fun s h1 h2 => ?_
 refine Ev.succ ?_
 simp only [Z62.c, Z62.w]
 refine Ev.grd (by simp; omega) ?_
 have := qD5 (by simp) hz [a, b] 0 [] rfl (by omega) (by simp) (by simp) (fun n y30 => R (n + 1) y30) (by simpa using hR.shift)
 exact this.shift
theorem qIx {d : List qP} {y : qA} (hd : d.length <= 60) (h1 : ¬ jG d y.2.2.1 < 0) (h2 : ¬ jG d y.2.2.2 < 0) (R : Nat -> List Int -> Prop) (hR : Ev fun n => R n (vI d y)) : Ev (fun n => Z13.c n y.1 y.2.1 y.2.2.1 y.2.2.2 (R n)) := by
 have l1 := (qAa h1).2
 have l2 := (qAa h2).2
 have v1 : (qAs d y.2.2.1).length <= d.length := vY
 have v2 : (qAs d y.2.2.2).length <= d.length := vY
 refine Ev.succ ?_
 simp only [Z13.c, Z13.w, and_self]
 refine qLc (by omega) _ ?_
 rw [qGY h1]
 refine qLc (by omega) _ ?_
 rw [qGY h2]
 refine qJW (by omega) (by omega) _ ?_
 rw [qII (by rw [List.length_append]; omega)]
 refine qD7 (by rw [qIG, List.length_append]; omega) _ ?_
 rw [qGr]
 exact hR.shift
theorem qHO {d : List qP} (hd : zN d = true) (hl : d.length <= 60) {y : qA} (h1 : ¬ jG d y.2.2.1 < 0) (h2 : ¬ jG d y.2.2.2 < 0)
  (g1 : ∀ x : qB, x ∈ y.2.2.1 -> Wd x.2.2.2.2.2.1 /\ x.2.2.2.2.2.2.length <= 1099511627776) (g2 : ∀ x : qB, x ∈ y.2.2.2 -> Wd x.2.2.2.2.2.1 /\ x.2.2.2.2.2.2.length <= 1099511627776)
  (R : Nat -> List Int -> Prop) (hR : Ev fun n => R n (vI d y)) : Ev (fun n => Z73.c n d y.1 y.2.1 y.2.2.1 y.2.2.2 (R n)) := by
 have ev : ∀ t, ¬ jG d t < 0 -> qG0 d t = qAs d t := fun t ht => by
  unfold qG0 xK
  rw [if_pos hd, if_neg ht]
 have v1 : (qAs d y.2.2.1).length <= d.length := vY
 have v2 : (qAs d y.2.2.2).length <= d.length := vY
 refine Ev.succ ?_
 simp only [Z73.c, Z73.w, and_self]
 refine qGZ (by omega) g1 _ ?_
 rw [ev _ h1]
 refine qGZ (by omega) g2 _ ?_
 rw [ev _ h2]
 refine Ev.grd (by simp; omega) ?_
 rw [qIS (by rw [List.length_append]; omega)]
 exact hR.shift
def vC (m : Nat) (f t : Int) (L : List Int) : List Int := (L.take m).map (fun x => if x = f then t else x) ++ L.drop m
theorem zU {m : Nat} {f t : Int} {L : List Int} : (vC m f t L).length = L.length := by
 rw [vC, List.length_append, List.length_map, List.length_take, List.length_drop]; omega
theorem zS {m : Nat} {f t : Int} {L : List Int} {a : Nat} (ha : a < L.length) (hm : m <= L.length) : rd (vC m f t L) a = if a < m /\ rd L a = f then t else rd L a := by
 have e : rd L a = L[a] := by rw [rd, List.getD_eq_getElem?_getD, List.getElem?_eq_getElem ha]; rfl
 rw [vC, rd, List.getD_eq_getElem?_getD, e]
 by_cases h : a < m
 ·rw [List.getElem?_append_left (by rw [List.length_map, List.length_take]; omega), List.getElem?_map, List.getElem?_take_of_lt h, List.getElem?_eq_getElem ha]
  simp only [Option.map_some, Option.getD_some]
  by_cases h2 : L[a] = f
  ·rw [if_pos h2, if_pos ⟨h, h2⟩]
  ·rw [if_neg h2, if_neg (fun hh => h2 hh.2)]
 ·rw [List.getElem?_append_right (by rw [List.length_map, List.length_take]; omega), List.length_map, List.length_take, List.getElem?_drop]
  rw [show m + (a - min m L.length) = a by omega, List.getElem?_eq_getElem ha, if_neg (fun hh => h hh.1)]; rfl
theorem qCJ {L : List Int} {i a : Nat} {x : Int} (hi : i < L.length) : rd (L.set i x) a = if a = i then x else rd L a := by
 rw [rd, rd, List.getD_eq_getElem?_getD, List.getD_eq_getElem?_getD, List.getElem?_set]
 by_cases h : a = i
 ·subst h; rw [if_pos rfl, if_pos rfl, if_pos hi]; rfl
 ·rw [if_neg (fun hh => h hh.symm), if_neg h]
structure Eqv (Q : Nat -> Nat -> Prop) : Prop where
 refl : ∀ a, Q a a
 symm : ∀ {a b}, Q a b -> Q b a
 trans : ∀ {a b c}, Q a b -> Q b c -> Q a c
structure qDo (E : Nat -> Nat -> Prop) (n : Nat) (L : List Int) : Prop where
 has : ∀ a b, a < n -> b < n -> E a b -> rd L a = rd L b
 least : ∀ Q, Eqv Q -> (∀ a b, a < n -> b < n -> E a b -> Q a b) -> ∀ a b, a < n -> b < n -> rd L a = rd L b -> Q a b
theorem qDo.same {E : Nat -> Nat -> Prop} {n : Nat} {L M : List Int} (h1 : qDo E n L) (h2 : qDo E n M) {a b : Nat} (ha : a < n) (hb : b < n) : rd L a = rd L b ↔ rd M a = rd M b := by
 have eqv : ∀ N : List Int, Eqv (fun a b => rd N a = rd N b) := fun N => ⟨fun _ => rfl, fun h => h.symm, fun h h' => h.trans h'⟩
 exact ⟨fun h => h1.least _ (eqv M) h2.has a b ha hb h, fun h => h2.least _ (eqv L) h1.has a b ha hb h⟩
theorem qAk {n m : Nat} {L : List Int} {f t : Int} (hn : n <= m) (hm : m <= L.length) {a b : Nat} (ha : a < n) (hb : b < n) (h : rd L a = rd L b) : rd (vC m f t L) a = rd (vC m f t L) b := by
 rw [zS (by omega) hm, zS (by omega) hm, h]
 by_cases hf : rd L b = f
 ·rw [if_pos ⟨by omega, hf⟩, if_pos ⟨by omega, hf⟩]
 ·rw [if_neg (fun hh => hf hh.2), if_neg (fun hh => hf hh.2)]
theorem qAi {n m : Nat} {L : List Int} {i k : Nat} (hn : n <= m) (hm : m <= L.length) (hi : i < n) (hk : k < n) : rd (vC m (rd L i) (rd L k) L) i = rd (vC m (rd L i) (rd L k) L) k := by
 rw [zS (by omega) hm, zS (by omega) hm, if_pos ⟨by omega, rfl⟩]
 by_cases hf : rd L k = rd L i
 ·rw [if_pos ⟨by omega, hf⟩]
 ·rw [if_neg (fun hh => hf hh.2)]
theorem qAj {n m : Nat} {L : List Int} {i k : Nat} (hn : n <= m) (hm : m <= L.length) (hi : i < n) (hk : k < n) {Q : Nat -> Nat -> Prop} (hQ : Eqv Q) (hq : Q i k)
  (h : ∀ a b, a < n -> b < n -> rd L a = rd L b -> Q a b) : ∀ a b, a < n -> b < n -> rd (vC m (rd L i) (rd L k) L) a = rd (vC m (rd L i) (rd L k) L) b -> Q a b := by
 intro a b ha hb hab
 rw [zS (by omega) hm, zS (by omega) hm] at hab
 by_cases h1 : rd L a = rd L i <;> by_cases h2 : rd L b = rd L i
 ·exact h a b ha hb (h1.trans h2.symm)
 ·rw [if_pos ⟨by omega, h1⟩, if_neg (fun hh => h2 hh.2)] at hab
  exact hQ.trans (h a i ha hi h1) (hQ.trans hq (h k b hk hb hab))
 ·rw [if_neg (fun hh => h1 hh.2), if_pos ⟨by omega, h2⟩] at hab
  exact hQ.trans (h a k ha hk hab) (hQ.trans (hQ.symm hq) (h i b hi hb h2.symm))
 ·rw [if_neg (fun hh => h1 hh.2), if_neg (fun hh => h2 hh.2)] at hab
  exact h a b ha hb hab
def wL (L : List Int) (i k : Nat) : List Int := vC L.length (if rd L k > rd L i then rd L k else rd L i) (if rd L k < rd L i then rd L k else rd L i) L
theorem qBz {L : List Int} {i k : Nat} : (wL L i k).length = L.length := zU
def Low (n : Nat) (L : List Int) : Prop := ∀ a, a < n -> 0 <= rd L a /\ rd L a <= (a : Int) /\ rd L (rd L a).toNat = rd L a
theorem qC1 {n : Nat} {L : List Int} {f t : Int} (hl : L.length = n) (h : Low n L) (h0 : 0 <= t) (htf : t <= f) (htt : rd L t.toNat = t) (htn : t.toNat < n) : Low n (vC L.length f t L) := fun a ha => by
 obtain ⟨a1, a2, a3⟩ := h a ha
 rw [zS (by omega) (Nat.le_refl _)]
 by_cases hf : rd L a = f
 ·rw [if_pos ⟨by omega, hf⟩]
  refine ⟨h0, by omega, ?_⟩
  rw [zS (by omega) (Nat.le_refl _), htt]
  by_cases h1 : t.toNat < L.length /\ t = f
  ·rw [if_pos h1]
  ·rw [if_neg h1]
 ·rw [if_neg (fun hh => hf hh.2)]
  refine ⟨a1, a2, ?_⟩
  rw [zS (by omega) (Nat.le_refl _), a3, if_neg (fun hh => hf hh.2)]
theorem qJd {n : Nat} {L : List Int} (hl : L.length = n) {i k : Nat} (hi : i < n) (hk : k < n) :
  (∀ a b, a < n -> b < n -> rd L a = rd L b -> rd (wL L i k) a = rd (wL L i k) b) /\ rd (wL L i k) i = rd (wL L i k) k /\
  (∀ Q, Eqv Q -> Q i k -> (∀ a b, a < n -> b < n -> rd L a = rd L b -> Q a b) -> ∀ a b, a < n -> b < n -> rd (wL L i k) a = rd (wL L i k) b -> Q a b) /\ (Low n L -> Low n (wL L i k)) := by
 have hm : n <= L.length := by omega
 by_cases hc : rd L k > rd L i
 ·have e : wL L i k = vC L.length (rd L k) (rd L i) L := by rw [wL, if_pos hc, if_neg (show ¬ rd L k < rd L i by omega)]
  rw [e]
  refine ⟨fun a b ha hb h => qAk hm (Nat.le_refl _) ha hb h, (qAi hm (Nat.le_refl _) hk hi).symm, fun Q hQ hq h => qAj hm (Nat.le_refl _) hk hi hQ (hQ.symm hq) h, fun low => ?_⟩
  obtain ⟨i1, i2, i3⟩ := low i hi
  exact qC1 hl low i1 (by omega) i3 (by omega)
 ·by_cases hc2 : rd L k < rd L i
  ·have e : wL L i k = vC L.length (rd L i) (rd L k) L := by rw [wL, if_neg hc, if_pos hc2]
   rw [e]
   refine ⟨fun a b ha hb h => qAk hm (Nat.le_refl _) ha hb h, qAi hm (Nat.le_refl _) hi hk, fun Q hQ hq h => qAj hm (Nat.le_refl _) hi hk hQ hq h, fun low => ?_⟩
   obtain ⟨k1, k2, k3⟩ := low k hk
   exact qC1 hl low k1 (by omega) k3 (by omega)
  ·have ek : rd L k = rd L i := by omega
   have e : wL L i k = vC L.length (rd L i) (rd L k) L := by rw [wL, if_neg hc, if_neg hc2, ek]
   rw [e]
   refine ⟨fun a b ha hb h => qAk hm (Nat.le_refl _) ha hb h, qAi hm (Nat.le_refl _) hi hk, fun Q hQ hq h => qAj hm (Nat.le_refl _) hi hk hQ hq h, fun low => ?_⟩
   obtain ⟨k1, k2, k3⟩ := low k hk
   exact qC1 hl low k1 (by omega) k3 (by omega)
def yM (vs : Nat -> List Int) (a b : Nat) : Prop := ∃ v, v ∈ vs a /\ v ∈ vs b
def xR (vs : Nat -> List Int) (i : Nat) : Nat -> Nat -> List Int -> List Int
 | 0, _, L => L
 | m + 1, k, L => xR vs i m (k + 1) (if (vs i).any (fun v => decide (v ∈ vs k)) = true then wL L i k else L)
def qBX (vs : Nat -> List Int) : Nat -> Nat -> List Int -> List Int
 | 0, _, L => L
 | m + 1, i, L => qBX vs m (i + 1) (xR vs i i 0 L)
theorem qEb {vs : Nat -> List Int} {i k : Nat} : (vs i).any (fun v => decide (v ∈ vs k)) = true ↔ yM vs i k := by
 rw [List.any_eq_true]
 exact ⟨fun ⟨v, h1, h2⟩ => ⟨v, h1, of_decide_eq_true h2⟩, fun ⟨v, h1, h2⟩ => ⟨v, h1, decide_eq_true h2⟩⟩
theorem qEv {vs : Nat -> List Int} {n i : Nat} (hi : i < n) : ∀ (m k : Nat) (L : List Int), L.length = n -> k + m = i -> Low n L ->
  (xR vs i m k L).length = n /\ Low n (xR vs i m k L) /\ (∀ a b, a < n -> b < n -> rd L a = rd L b -> rd (xR vs i m k L) a = rd (xR vs i m k L) b) /\
  (∀ j, k <= j -> j < i -> yM vs i j -> rd (xR vs i m k L) i = rd (xR vs i m k L) j) /\
  (∀ Q, Eqv Q -> (∀ a b, a < n -> b < n -> yM vs a b -> Q a b) -> (∀ a b, a < n -> b < n -> rd L a = rd L b -> Q a b) -> ∀ a b, a < n -> b < n -> rd (xR vs i m k L) a = rd (xR vs i m k L) b -> Q a b)
 | 0, k, L, hl, hk, low => ⟨hl, low, fun a b _ _ h => h, fun j h1 h2 _ => by omega, fun Q _ _ h => h⟩
 | m + 1, k, L, hl, hk, low => by
  by_cases hs : (vs i).any (fun v => decide (v ∈ vs k)) = true
  ·obtain ⟨q1, q2, q3, q4⟩ := qJd hl hi (show k < n by omega)
   obtain ⟨r1, r2, r3, r4, r5⟩ := qEv (vs := vs) hi m (k + 1) (wL L i k) (by rw [qBz]; exact hl) (by omega) (q4 low)
   rw [xR, if_pos hs]
   refine ⟨r1, r2, fun a b ha hb h => r3 a b ha hb (q1 a b ha hb h), fun j h1 h2 h3 => ?_, fun Q hQ hE h => r5 Q hQ hE (q3 Q hQ (hE i k hi (by omega) (qEb.1 hs)) h)⟩
   by_cases hj : j = k
   ·subst hj; exact r3 i j hi (by omega) q2
   ·exact r4 j (by omega) h2 h3
  ·obtain ⟨r1, r2, r3, r4, r5⟩ := qEv (vs := vs) hi m (k + 1) L hl (by omega) low
   rw [xR, if_neg hs]
   refine ⟨r1, r2, r3, fun j h1 h2 h3 => ?_, r5⟩
   by_cases hj : j = k
   ·subst hj; exact absurd (qEb.2 h3) hs
   ·exact r4 j (by omega) h2 h3
theorem qFp {vs : Nat -> List Int} {n : Nat} : ∀ (m i : Nat) (L : List Int), L.length = n -> i + m = n -> Low n L ->
  (∀ a b, a < i -> b < i -> yM vs a b -> rd L a = rd L b) -> (∀ Q, Eqv Q -> (∀ a b, a < n -> b < n -> yM vs a b -> Q a b) -> ∀ a b, a < n -> b < n -> rd L a = rd L b -> Q a b) ->
  (qBX vs m i L).length = n /\ Low n (qBX vs m i L) /\ qDo (yM vs) n (qBX vs m i L)
 | 0, i, L, hl, hi, low, h1, h2 => by
  obtain rfl : i = n := by omega
  exact ⟨hl, low, ⟨h1, h2⟩⟩
 | m + 1, i, L, hl, hi, low, h1, h2 => by
  obtain ⟨r1, r2, r3, r4, r5⟩ := qEv (vs := vs) (show i < n by omega) i 0 L hl (by omega) low
  rw [qBX]
  refine qFp m (i + 1) _ r1 (by omega) r2 (fun a b ha hb hs => ?_) fun Q hQ hE => r5 Q hQ hE (h2 Q hQ hE)
  by_cases ha' : a = i <;> by_cases hb' : b = i
  ·rw [ha', hb']
  ·subst ha'; exact r4 b (by omega) (by omega) hs
  ·subst hb'; obtain ⟨v, v1, v2⟩ := hs; exact (r4 a (by omega) (by omega) ⟨v, v2, v1⟩).symm
  ·exact r3 a b (by omega) (by omega) (h1 a b (by omega) (by omega) hs)
def vX (i : Nat) : List Int -> List Int -> List Int -> List Int × List Int
 | [], O, L => (O, L)
 | v :: r, O, L =>
  if rd O v.toNat < 0 \/ rd L (rd O v.toNat).toNat = rd L i then vX i r (O.set v.toNat (i : Int)) L
  else vX i r (O.set v.toNat (i : Int)) (vC (i + 1) (rd L i) (rd L (rd O v.toNat).toNat) L)
def qBb (vs : Nat -> List Int) : Nat -> Nat -> List Int -> List Int -> List Int
 | 0, _, _, L => L
 | m + 1, i, O, L => qBb vs m (i + 1) (vX i (vs i) O (L.set i (i : Int))).1 (vX i (vs i) O (L.set i (i : Int))).2
def qPq (vs : Nat -> List Int) (i : Nat) (o v : Int) : Prop := (o < 0 -> ∀ j, j < i -> v ∉ vs j) /\ (0 <= o -> o.toNat < i /\ v ∈ vs o.toNat)
theorem qHo {vs : Nat -> List Int} {n i : Nat} (hi : i < n) : ∀ (ys O L : List Int), L.length = n -> (∀ v ∈ ys, 0 <= v /\ v.toNat < O.length) -> ys.Nodup -> (∀ v ∈ ys, qPq vs i (rd O v.toNat) v) ->
  (∀ a b, a < i -> b < i -> yM vs a b -> rd L a = rd L b) -> (∀ v ∈ ys, v ∈ vs i) -> (∀ a, a <= i -> 0 <= rd L a /\ rd L a <= (i : Int)) ->
  (vX i ys O L).1.length = O.length /\ (vX i ys O L).2.length = n /\ (∀ a b, a < i + 1 -> b < i + 1 -> rd L a = rd L b -> rd (vX i ys O L).2 a = rd (vX i ys O L).2 b) /\
  (∀ v ∈ ys, ∀ j, j < i -> v ∈ vs j -> rd (vX i ys O L).2 i = rd (vX i ys O L).2 j) /\
  (∀ Q, Eqv Q -> (∀ a b, a < i + 1 -> b < i + 1 -> yM vs a b -> Q a b) -> (∀ a b, a < i + 1 -> b < i + 1 -> rd L a = rd L b -> Q a b) -> ∀ a b, a < i + 1 -> b < i + 1 -> rd (vX i ys O L).2 a = rd (vX i ys O L).2 b -> Q a b) /\
  (∀ a, a <= i -> 0 <= rd (vX i ys O L).2 a /\ rd (vX i ys O L).2 a <= (i : Int)) /\ (∀ w : Nat, rd (vX i ys O L).1 w = if (w : Int) ∈ ys then (i : Int) else rd O w)
 | [], O, L, hl, _, _, _, _, _, hb => ⟨rfl, hl, fun a b _ _ h => h, fun v hv => absurd hv (by simp), fun Q _ _ h => h, hb, fun w => by rw [if_neg (by simp)]; rfl⟩
 | v :: ys, O, L, hl, hv, hn, hO, hB, hs, hb => by
  rw [List.nodup_cons] at hn
  obtain ⟨v0, v1⟩ := hv v List.mem_cons_self
  have ne : ∀ w ∈ ys, w.toNat ≠ v.toNat := fun w hw he => by
   have := (hv w (List.mem_cons_of_mem _ hw)).1
   have : w = v := by omega
   subst this; exact hn.1 hw
  have hO' : ∀ w ∈ ys, qPq vs i (rd (O.set v.toNat (i : Int)) w.toNat) w := fun w hw => by
   rw [qCJ v1, if_neg (ne w hw)]; exact hO w (List.mem_cons_of_mem _ hw)
  have own : ∀ {P : List Int}, (∀ w : Nat, rd P w = if (w : Int) ∈ ys then (i : Int) else rd (O.set v.toNat (i : Int)) w) -> ∀ w : Nat, rd P w = if (w : Int) ∈ v :: ys then (i : Int) else rd O w := fun hP w => by
   rw [hP w, qCJ v1]
   by_cases h1 : (w : Int) ∈ ys
   ·rw [if_pos h1, if_pos (List.mem_cons_of_mem _ h1)]
   ·rw [if_neg h1]
    by_cases h2 : w = v.toNat
    ·rw [if_pos h2, if_pos (List.mem_cons.2 (.inl (by omega)))]
    ·rw [if_neg h2, if_neg (fun hh => (List.mem_cons.1 hh).elim (fun h => h2 (by omega)) h1)]
  obtain ⟨l1, l2⟩ := hO v List.mem_cons_self
  have len : (O.set v.toNat (i : Int)).length = O.length := List.length_set ..
  have ih := fun M hM hB' hb' => qHo (vs := vs) hi ys (O.set v.toNat (i : Int)) M hM (fun w hw => by rw [len]; exact hv w (List.mem_cons_of_mem _ hw)) hn.2 hO' hB' (fun w hw => hs w (List.mem_cons_of_mem _ hw)) hb'
  rw [vX]
  by_cases hc : rd O v.toNat < 0 \/ rd L (rd O v.toNat).toNat = rd L i
  ·rw [if_pos hc]
   obtain ⟨r1, r2, r3, r4, r5, r6, r7⟩ := ih L hl hB hb
   refine ⟨r1.trans len, r2, r3, fun u hu j hj huj => ?_, r5, r6, own r7⟩
   rcases List.mem_cons.1 hu with rfl | hu
   ·by_cases h0 : rd O u.toNat < 0
    ·exact absurd huj (l1 h0 j hj)
    ·obtain ⟨o1, o2⟩ := l2 (by omega)
     have e1 := hB j _ hj o1 ⟨u, huj, o2⟩
     have e2 := hc.resolve_left h0
     exact r3 i j (by omega) (by omega) (e1.trans e2).symm
   ·exact r4 u hu j hj huj
  ·rw [if_neg hc]
   rw [not_or] at hc
   obtain ⟨o1, o2⟩ := l2 (by omega)
   have hm : i + 1 <= L.length := by omega
   have jk : ∀ {a b}, a < i + 1 -> b < i + 1 -> rd L a = rd L b -> rd (vC (i + 1) (rd L i) (rd L (rd O v.toNat).toNat) L) a = rd (vC (i + 1) (rd L i) (rd L (rd O v.toNat).toNat) L) b := fun ha hb h => qAk (Nat.le_refl _) hm ha hb h
   have jm : rd (vC (i + 1) (rd L i) (rd L (rd O v.toNat).toNat) L) i = rd (vC (i + 1) (rd L i) (rd L (rd O v.toNat).toNat) L) (rd O v.toNat).toNat := qAi (n := i + 1) (Nat.le_refl _) hm (by omega) (by omega)
   have jb : ∀ a, a <= i -> 0 <= rd (vC (i + 1) (rd L i) (rd L (rd O v.toNat).toNat) L) a /\ rd (vC (i + 1) (rd L i) (rd L (rd O v.toNat).toNat) L) a <= (i : Int) := fun a ha => by
    rw [zS (by omega) hm]
    split
    ·exact hb _ (by omega)
    ·exact hb a ha
   obtain ⟨r1, r2, r3, r4, r5, r6, r7⟩ := ih _ (by rw [zU]; exact hl) (fun a b ha hb' h => jk (by omega) (by omega) (hB a b ha hb' h)) jb
   refine ⟨r1.trans len, r2, fun a b ha hb' h => r3 a b ha hb' (jk ha hb' h), fun u hu j hj huj => ?_, fun Q hQ hE h => r5 Q hQ hE (qAj (Nat.le_refl _) hm (by omega) (by omega) hQ (hE _ _ (by omega) (by omega) ⟨v, hs v List.mem_cons_self, o2⟩) h), r6, own r7⟩
   rcases List.mem_cons.1 hu with rfl | hu
   ·have e1 := hB j _ hj o1 ⟨u, huj, o2⟩
    exact r3 i j (by omega) (by omega) (jm.trans (jk (by omega) (by omega) e1.symm))
   ·exact r4 u hu j hj huj
theorem qFF {vs : Nat -> List Int} {n : Nat} : ∀ (m i : Nat) (O L : List Int), L.length = n -> i + m = n -> (∀ j, j < n -> (vs j).Nodup /\ ∀ v ∈ vs j, 0 <= v /\ v.toNat < O.length) -> (∀ w : Nat, w < O.length -> qPq vs i (rd O w) (w : Int)) ->
  (∀ a b, a < i -> b < i -> yM vs a b -> rd L a = rd L b) -> (∀ Q, Eqv Q -> (∀ a b, a < i -> b < i -> yM vs a b -> Q a b) -> ∀ a b, a < i -> b < i -> rd L a = rd L b -> Q a b) -> (∀ a, a < i -> 0 <= rd L a /\ rd L a < (i : Int)) ->
  (qBb vs m i O L).length = n /\ qDo (yM vs) n (qBb vs m i O L) /\ ∀ a, a < n -> 0 <= rd (qBb vs m i O L) a /\ rd (qBb vs m i O L) a < (n : Int)
 | 0, i, O, L, hl, hi, _, _, hB, hC, hb => by
  obtain rfl : i = n := by omega
  exact ⟨hl, ⟨hB, hC⟩, hb⟩
 | m + 1, i, O, L, hl, hi, hv, hO, hB, hC, hb => by
  have hin : i < L.length := by omega
  obtain ⟨d1, d2⟩ := hv i (by omega)
  have r0 : ∀ a, rd (L.set i (i : Int)) a = if a = i then (i : Int) else rd L a := fun a => qCJ hin
  obtain ⟨q1, q2, q3, q4, q5, q6, q7⟩ := qHo (vs := vs) (n := n) (i := i) (by omega) (vs i) O (L.set i (i : Int)) (by rw [List.length_set]; exact hl) d2 d1 (fun v h => by
   have := hO v.toNat (d2 v h).2
   rwa [show ((v.toNat : Nat) : Int) = v from Int.toNat_of_nonneg (d2 v h).1] at this) (fun a b ha hb' h => by
   rw [r0, r0, if_neg (by omega), if_neg (by omega)]; exact hB a b ha hb' h) (fun v h => h) (fun a ha => by
   rw [r0]; split
   ·omega
   ·have := hb a (by omega); omega)
  rw [qBb]
  refine qFF m (i + 1) _ _ q2 (by omega) (fun j hj => by rw [q1]; exact hv j hj) (fun w hw => ?_) (fun a b ha hb' hs => ?_) (fun Q hQ hE a b ha hb' h => ?_) (fun a ha => by have := q6 a (by omega); omega)
  ·rw [q1] at hw
   rw [q7 w]
   by_cases hm : (w : Int) ∈ vs i
   ·rw [if_pos hm]
    exact ⟨fun h => by omega, fun _ => ⟨by omega, by rw [Int.toNat_natCast]; exact hm⟩⟩
   ·rw [if_neg hm]
    obtain ⟨h1, h2⟩ := hO w hw
    refine ⟨fun h j hj => ?_, fun h => ⟨by have := (h2 h).1; omega, (h2 h).2⟩⟩
    by_cases hji : j = i
    ·rw [hji]; exact hm
    ·exact h1 h j (by omega)
  ·have keep : ∀ {a b}, a < i -> b < i -> rd L a = rd L b -> rd (vX i (vs i) O (L.set i (i : Int))).2 a = rd (vX i (vs i) O (L.set i (i : Int))).2 b := fun ha hb' h => q3 _ _ (by omega) (by omega) (by rw [r0, r0, if_neg (by omega), if_neg (by omega)]; exact h)
   by_cases ha' : a = i <;> by_cases hb'' : b = i
   ·rw [ha', hb'']
   ·subst ha'; obtain ⟨v, v1, v2⟩ := hs; exact q4 v v1 b (by omega) v2
   ·subst hb''; obtain ⟨v, v1, v2⟩ := hs; exact (q4 v v2 a (by omega) v1).symm
   ·exact keep (by omega) (by omega) (hB a b (by omega) (by omega) hs)
  ·refine q5 Q hQ hE (fun a b ha hb' h => ?_) a b ha hb' h
   rw [r0, r0] at h
   by_cases ha' : a = i <;> by_cases hb'' : b = i
   ·rw [ha', hb'']; exact hQ.refl _
   ·rw [if_pos ha', if_neg hb''] at h; have := hb b (by omega); omega
   ·rw [if_neg ha', if_pos hb''] at h; have := hb a (by omega); omega
   ·rw [if_neg ha', if_neg hb''] at h
    exact hC Q hQ (fun a b ha hb' hs => hE a b (by omega) (by omega) hs) a b (by omega) (by omega) h
def first (L : List Int) (i : Nat) : Bool := (List.range i).all fun j => decide (rd L j ≠ rd L i)
theorem yH {L : List Int} {i : Nat} : first L i = true ↔ ∀ j, j < i -> rd L j ≠ rd L i := by
 rw [first, List.all_eq_true]
 exact ⟨fun h j hj => by simpa using h j (List.mem_range.2 hj), fun h j hj => by simpa using h j (List.mem_range.1 hj)⟩
def zI {α : Type} (L : List Int) (x : Nat -> α) (n : Nat) : List (List α) := ((List.range n).filter (first L)).map fun i => ((List.range n).filter fun k => decide (rd L k = rd L i)).map x
theorem qIi {α : Type} {L M : List Int} {x : Nat -> α} {n : Nat} (h : ∀ a b, a < n -> b < n -> (rd L a = rd L b ↔ rd M a = rd M b)) : zI L x n = zI M x n := by
 have e1 : (List.range n).filter (first L) = (List.range n).filter (first M) := List.filter_congr fun i hi => by
  have hi := List.mem_range.1 hi
  rw [Bool.eq_iff_iff, yH, yH]
  exact ⟨fun hh j hj he => hh j hj ((h j i (by omega) hi).2 he), fun hh j hj he => hh j hj ((h j i (by omega) hi).1 he)⟩
 unfold zI
 rw [e1]
 refine List.map_congr_left fun i hi => ?_
 have hi := List.mem_range.1 (List.mem_filter.1 hi).1
 congr 1
 refine List.filter_congr fun k hk => ?_
 have hk := List.mem_range.1 hk
 rw [decide_eq_decide]; exact h k i hk hi
theorem qFz {n : Nat} {L : List Int} (h : Low n L) {i : Nat} (hi : i < n) : first L i = true ↔ rd L i = (i : Int) := by
 obtain ⟨h1, h2, h3⟩ := h i hi
 rw [yH]
 constructor
 ·intro hh
  refine Classical.byContradiction fun hne => ?_
  exact hh (rd L i).toNat (by omega) h3
 ·intro he j hj hh
  have := (h j (by omega)).2.1
  omega
def qEi (d : List qP) (l : List qA) (i : Nat) : List Int := vI d (rd l i)
def ran (n : Nat) : List Int := (List.range n).map fun i : Nat => (i : Int)
theorem qKA {n : Nat} : ran (n + 1) = ran n ++ [(n : Int)] := by rw [ran, List.range_succ, List.map_append]; rfl
theorem qGm {n : Nat} : (ran n).length = n := by simp [ran]
theorem qHc {n i : Nat} (h : i < n) : rd (ran n) i = (i : Int) := by
 rw [rd, List.getD_eq_getElem?_getD, ran, List.getElem?_map, List.getElem?_range h]; rfl
theorem qNb {a b : List Int} (hl : a.length = b.length) (h : ∀ i, i < a.length -> rd a i = rd b i) : a = b := by
 refine List.ext_getElem hl fun i h1 h2 => ?_
 have := h i h1
 rw [rd, rd, List.getD_eq_getElem?_getD, List.getD_eq_getElem?_getD, List.getElem?_eq_getElem h1, List.getElem?_eq_getElem h2] at this
 exact this
theorem qDI {k : Nat} {f t : Int} {L : List Int} (hk : k < L.length) : (if rd L k = f then (vC k f t L).set k t else vC k f t L) = vC (k + 1) f t L := by
 refine qNb (by split <;> simp [zU]) fun i hi => ?_
 have hi' : i < L.length := by split at hi <;> simpa [zU] using hi
 rw [zS hi' (by omega)]
 by_cases hf : rd L k = f
 ·rw [if_pos hf, qCJ (by rw [zU]; exact hk), zS hi' (by omega)]
  by_cases h1 : i = k
  ·subst h1; rw [if_pos rfl, if_pos ⟨by omega, hf⟩]
  ·rw [if_neg h1]
   by_cases h2 : i < k /\ rd L i = f
   ·rw [if_pos h2, if_pos ⟨by omega, h2.2⟩]
   ·rw [if_neg h2, if_neg (fun hh => h2 ⟨by omega, hh.2⟩)]
 ·rw [if_neg hf, zS hi' (by omega)]
  by_cases h1 : i = k
  ·subst h1; rw [if_neg (fun hh => hf hh.2), if_neg (fun hh => hf hh.2)]
  ·by_cases h2 : i < k /\ rd L i = f
   ·rw [if_pos h2, if_pos ⟨by omega, h2.2⟩]
   ·rw [if_neg h2, if_neg (fun hh => h2 ⟨by omega, hh.2⟩)]
theorem qHb {k m : Nat} {f t : Int} {L : List Int} (hk : k < L.length) (hm : m <= k) : rd (vC m f t L) k = rd L k := by
 rw [zS hk (by omega), if_neg (by omega)]
theorem qDH {f t : Int} {L : List Int} : vC 0 f t L = L := by simp [vC]
theorem qDP {f t : Int} {L : List Int} (hl : L.length <= 1048576) : ∀ (m : Nat) (x : Int), x + m = L.length -> 0 <= x -> ∀ Kx : Nat -> List Int -> Prop, Ev (fun n => Kx n (vC L.length f t L)) -> Ev (fun n => Z84.l3 n t f x (vC x.toNat f t L) (Kx n))
 | 0, x, hx, h0, Kx, h => by
  refine Ev.succ ?_
  simp only [Z84.l3, Z84.l3.b, zU]
  refine Ev.neg (by simp; omega) ?_
  rw [show x.toNat = L.length by omega]; exact h.shift
 | m + 1, x, hx, h0, Kx, h => by
  have e := qDI (f := f) (t := t) (L := L) (k := x.toNat) (by omega)
  have ih := qDP hl m (x + 1) (by omega) (by omega) (fun n => Kx (n + 1)) h.shift
  rw [show (x + 1).toNat = x.toNat + 1 by omega, <- e] at ih
  refine Ev.succ ?_
  simp only [Z84.l3, Z84.l3.b, zU]
  refine Ev.pos (by simp; omega) (Ev.grd (by simp; omega) ?_)
  rw [qHb (by omega) (Nat.le_refl _), qG (x := x + 1) (by omega) (by omega)]
  refine Ev.ite (fun hf => Ev.grd (by simp; omega) ?_) fun hf => ?_
  ·rw [if_pos (by simpa using hf)] at ih; exact ih
  ·rw [if_neg (by simpa using hf)] at ih; exact ih
theorem qJc {L : List Int} (hl : L.length <= 1048576) {i k : Nat} (hi : i < L.length) (hk : k < L.length) (R : Nat -> List Int -> Prop) (hR : Ev fun n => R n (wL L i k)) : Ev (fun n => Z84.c n L (i : Int) (k : Int) (R n)) := by
 have lp := fun f t => qDP (f := f) (t := t) hl L.length 0 (by omega) (by omega) (fun n => R (n + 1))
 simp only [Int.toNat_zero, qDH] at lp
 refine Ev.succ ?_
 simp only [Z84.c, Z84.w, Int.toNat_natCast]
 refine Ev.grd (by simp; omega) (Ev.grd (by simp; omega) (Ev.grd (by simp; omega) (Ev.grd (by simp; omega) ?_)))
 exact lp _ _ hR.shift
theorem qJf {b c : List Int} (hb : b.length <= 1048576) (hc : c.length <= 1048576) : ∀ (ys : List Int) (x : Int), b.drop x.toNat = ys -> 0 <= x -> ∀ (Kx : Nat -> Prop) (Kr : Nat -> Bool -> Prop),
  (ys.any (fun v => decide (v ∈ c)) = true -> Ev (fun n => Kr n true)) -> (ys.any (fun v => decide (v ∈ c)) = false -> Ev Kx) -> Ev (fun n => Z72.l2 n b c x (Kx n) (Kr n))
 | [], x, h, h0, Kx, Kr, h1, h2 => by
  have := qJ h h0
  refine Ev.succ ?_
  simp only [Z72.l2, Z72.l2.b]
  exact Ev.neg (by simp; omega) (h2 rfl).shift
 | y :: ys, x, h, h0, Kx, Kr, h1, h2 => by
  obtain ⟨e1, e2, e3⟩ := qD h h0
  refine Ev.succ ?_
  simp only [Z72.l2, Z72.l2.b, e2]
  refine Ev.pos (by simp; omega) (Ev.grd (by simp; omega) ?_)
  rw [qLn (by omega), qG (x := x + 1) (by omega) (by omega)]
  refine Ev.ite (fun hy => (h1 (by rw [List.any_cons, hy, Bool.true_or])).shift) fun hy => ?_
  have hy' : decide (y ∈ c) = false := by simpa using hy
  refine qJf hb hc ys (x + 1) e3 (by omega) (fun n => Kx (n + 1)) (fun n => Kr (n + 1)) (fun hh => (h1 (by rw [List.any_cons, hh, Bool.or_true])).shift) fun hh => (h2 (by rw [List.any_cons, hh, hy']; rfl)).shift
theorem qMh {b c : List Int} (hb : b.length <= 1048576) (hc : c.length <= 1048576) (R : Nat -> Bool -> Prop) (hR : Ev fun n => R n (b.any fun v => decide (v ∈ c))) : Ev (fun n => Z72.c n b c (R n)) := by
 refine Ev.succ ?_
 simp only [Z72.c, Z72.w]
 refine qJf hb hc b 0 rfl (by omega) (fun n => R (n + 1) false) (fun n => R (n + 1)) (fun h => ?_) fun h => ?_
 ·rw [h] at hR; exact hR.shift
 ·rw [h] at hR; exact hR.shift
theorem qBs {α : Type} [Inhabited α] {l : List α} {k : Nat} (h : k < l.length) : l.take (k + 1) = l.take k ++ [rd l k] := by
 rw [List.take_succ_eq_append_getElem h, rd, List.getD_eq_getElem?_getD, List.getElem?_eq_getElem h]; rfl
theorem qGX {d : List qP} {l : List qA} {i : Nat} (h : i < l.length) : rd (l.map (vI d)) i = qEi d l i := by
 rw [qEi, rd, rd, List.getD_eq_getElem?_getD, List.getD_eq_getElem?_getD, List.getElem?_map, List.getElem?_eq_getElem h]; rfl
theorem qFq {vs : Nat -> List Int} {i : Nat} : ∀ {m k : Nat} {L : List Int}, (xR vs i m k L).length = L.length
 | 0, k, L => rfl
 | m + 1, k, L => by
  rw [xR, qFq]; split
  ·exact qBz
  ·rfl
section
variable {d : List qP} (hd : zN d = true) (hdl : d.length <= 60) {l : List qA} (hl : l.length <= 60) (hw : ∀ y ∈ l, ¬ jG d y.2.2.1 < 0 /\ ¬ jG d y.2.2.2 < 0) (hg : qPg l)
include hd hdl hl hw hg
theorem qDK {o : List (List Int)} : ∀ (m : Nat) (x : Int), x + m = l.length -> 0 <= x ->
  ∀ Kx : Nat -> List qA -> List Int -> List (List Int) -> List (List Int) -> Prop, Ev (fun n => Kx n l (ran l.length) (l.map (vI d)) o) -> Ev (fun n => Z69.l7 n d l o x (ran x.toNat) ((l.take x.toNat).map (vI d)) (Kx n))
 | 0, x, hx, h0, Kx, hK => by
  refine Ev.succ ?_
  simp only [Z69.l7, Z69.l7.b]
  refine Ev.neg (by simp; omega) ?_
  rw [show x.toNat = l.length by omega, List.take_length]; exact hK.shift
 | m + 1, x, hx, h0, Kx, hK => by
  have hm : rd l x.toNat ∈ l := qBv (by omega)
  have ih := qDK (o := o) m (x + 1) (by omega) (by omega) (fun n => Kx (n + 1)) hK.shift
  rw [show (x + 1).toNat = x.toNat + 1 by omega, qKA, qBs (by omega), List.map_append, show ((x.toNat : Nat) : Int) = x by omega] at ih
  refine Ev.succ ?_
  simp only [Z69.l7, Z69.l7.b]
  refine Ev.pos (by simp; omega) (Ev.grd (by simp [qGm]; omega) (Ev.grd (by simp; omega) ?_))
  refine qHO hd hdl (hw _ hm).1 (hw _ hm).2 (hg _ hm).1 (hg _ hm).2 _ (Ev.grd (by simp; omega) ?_)
  rw [qG (x := x + 1) (by omega) (by omega)]
  exact ih
omit hd hw hg in
theorem qCM {o : List (List Int)} {i : Nat} (hi : i < l.length) : ∀ (m : Nat) (x : Int) (L : List Int), x + m = i -> 0 <= x -> L.length = l.length -> ∀ Kx : Nat -> List qA -> Int -> List Int -> List (List Int) -> List (List Int) -> Prop,
  Ev (fun n => Kx n l (i : Int) (xR (qEi d l) i m x.toNat L) (l.map (vI d)) o) -> Ev (fun n => Z69.l15 n l (i : Int) (l.map (vI d)) o x L (Kx n))
 | 0, x, L, hx, h0, hL, Kx, hK => by
  refine Ev.succ ?_
  simp only [Z69.l15, Z69.l15.b]
  exact Ev.neg (by simp; omega) hK.shift
 | m + 1, x, L, hx, h0, hL, Kx, hK => by
  have v1 := qIz (d := d) (y := rd l i)
  have v2 := qIz (d := d) (y := rd l x.toNat)
  have ih := fun L' hL' hK' => qCM (o := o) hi m (x + 1) L' (by omega) (by omega) hL' (fun n => Kx (n + 1)) hK'
  rw [xR] at hK
  refine Ev.succ ?_
  simp only [Z69.l15, Z69.l15.b, Int.toNat_natCast, qGX hi, qGX (show x.toNat < l.length by omega)]
  refine Ev.pos (by simp; omega) (Ev.grd (by simp; omega) (Ev.grd (by simp; omega) ?_))
  refine qMh (by rw [qEi]; omega) (by rw [qEi]; omega) _ ?_
  rw [qG (x := x + 1) (by omega) (by omega)]
  refine Ev.ite (fun hs => ?_) fun hs => ?_
  ·rw [if_pos hs] at hK
   have hmw := qJc (L := L) (by omega) (i := i) (k := x.toNat) (by omega) (by omega)
   rw [show ((x.toNat : Nat) : Int) = x by omega] at hmw
   refine hmw _ ?_
   refine ih _ (by rw [qBz]; exact hL) ?_
   rw [show (x + 1).toNat = x.toNat + 1 by omega]; exact hK.shift
  ·rw [if_neg hs] at hK
   refine ih _ hL ?_
   rw [show (x + 1).toNat = x.toNat + 1 by omega]; exact hK.shift
end
theorem qCN {d : List qP} (hdl : d.length <= 60) {l : List qA} (hl : l.length <= 60) {o : List (List Int)} : ∀ (m : Nat) (i : Nat) (L : List Int), i + m = l.length -> L.length = l.length -> ∀ Kx : Nat -> List qA -> List Int -> List (List Int) -> Prop,
  Ev (fun n => Kx n l (qBX (qEi d l) m i L) o) -> Ev (fun n => Z69.l12 n l (i : Int) L (l.map (vI d)) o (Kx n))
 | 0, i, L, hi, hL, Kx, hK => by
  refine Ev.succ ?_
  simp only [Z69.l12, Z69.l12.b]
  exact Ev.neg (by simp; omega) hK.shift
 | m + 1, i, L, hi, hL, Kx, hK => by
  have ih := qCN hdl hl (o := o) m (i + 1) (xR (qEi d l) i i 0 L) (by omega) (by rw [qFq]; exact hL) (fun n => Kx (n + 1)) (by rw [qBX] at hK; exact hK.shift)
  refine Ev.succ ?_
  simp only [Z69.l12, Z69.l12.b]
  refine Ev.pos (by simp; omega) ?_
  refine qCM hdl hl (by omega) i 0 L (by omega) (by omega) hL (fun n i j k r s => Z69.l12 n i (IntKind.wrap .i64 (j + 1)) k r s (Kx (n + 1))) ?_
  rw [qG (x := (i : Int) + 1) (by omega) (by omega)]
  exact ih
def kK (l : List qA) (L : List Int) (i : Int) (k m : Nat) : List Int := ((List.range' k m).filter fun k => decide (rd L k = i)).map fun k => (rd l k).1
theorem qAH {l : List qA} (hl : l.length <= 60) {L : List Int} (hL : L.length = l.length) {i : Nat} (hi : i < l.length) {o : List (List Int)} : ∀ (m k : Nat) (s : List Int), k + m = l.length -> s.length + m <= 1000 -> ∀ Kx : Nat -> List qA -> Int -> List (List Int) -> List Int -> List Int -> Prop,
  Ev (fun n => Kx n l (i : Int) o L (if rd L i = (i : Int) then s ++ kK l L (i : Int) k m else s)) -> Ev (fun n => Z69.l24 n l (i : Int) o L (k : Int) s (Kx n))
 | 0, k, s, hk, hs, Kx, hK => by
  have e : (if rd L i = (i : Int) then s ++ kK l L (i : Int) k 0 else s) = s := by split <;> simp [kK]
  rw [e] at hK
  refine Ev.succ ?_
  simp only [Z69.l24, Z69.l24.b]
  exact Ev.neg (by simp; omega) hK.shift
 | m + 1, k, s, hk, hs, Kx, hK => by
  refine Ev.succ ?_
  simp only [Z69.l24, Z69.l24.b, Z69.j1, Int.toNat_natCast]
  refine Ev.pos (by simp; omega) (Ev.grd (by simp; omega) (Ev.ite (fun h1 => Ev.grd (by simp; omega) (Ev.ite (fun h2 => Ev.grd (by simp; omega) (Ev.grd (by simp; omega) ?_)) fun h2 => ?_)) fun h1 => ?_))
  ·have h1' : rd L i = (i : Int) := by simpa using h1
   have h2' : rd L k = (i : Int) := by simpa using h2
   rw [if_pos h1', kK, List.range'_succ, List.filter_cons, if_pos (by simpa using h2'), List.map_cons] at hK
   have ih := qAH hl hL hi (o := o) m (k + 1) (s ++ [(rd l k).1]) (by omega) (by simp; omega) (fun n => Kx (n + 1)) (by
    rw [if_pos h1', kK, List.append_assoc, List.singleton_append]; exact hK.shift)
   rw [qG (x := (k : Int) + 1) (by omega) (by omega)]
   exact ih
  ·have h1' : rd L i = (i : Int) := by simpa using h1
   have h2' : ¬ rd L k = (i : Int) := by simpa using h2
   rw [if_pos h1', kK, List.range'_succ, List.filter_cons, if_neg (by simpa using h2')] at hK
   have ih := qAH hl hL hi (o := o) m (k + 1) s (by omega) (by omega) (fun n => Kx (n + 1)) (by
    rw [if_pos h1', kK]; exact hK.shift)
   rw [qG (x := (k : Int) + 1) (by omega) (by omega)]
   exact ih
  ·rw [if_neg (by simpa using h1)] at hK
   exact hK.shift
def yR (l : List qA) (L : List Int) (i m : Nat) : List (List Int) := ((List.range' i m).filter fun i : Nat => decide (rd L i = (i : Int))).map fun i : Nat => kK l L (i : Int) i (l.length - i)
theorem qH6 {l : List qA} {L : List Int} {i m : Nat} (h : rd L i = (i : Int)) (hm : 0 < m) : (kK l L (i : Int) i m).length > 0 := by
 obtain ⟨k, rfl⟩ : ∃ k, m = k + 1 := ⟨m - 1, by omega⟩
 rw [kK, List.range'_succ, List.filter_cons, if_pos (by simpa using h)]
 simp
theorem qCL {l : List qA} (hl : l.length <= 60) {L : List Int} (hL : L.length = l.length) : ∀ (m i : Nat) (o : List (List Int)), i + m = l.length -> o.length + m <= 1000 -> ∀ Kx : Nat -> List (List Int) -> Prop,
  Ev (fun n => Kx n (o ++ yR l L i m)) -> Ev (fun n => Z69.l20 n l (i : Int) o L (Kx n))
 | 0, i, o, hi, ho, Kx, hK => by
  refine Ev.succ ?_
  simp only [Z69.l20, Z69.l20.b]
  refine Ev.neg (by simp; omega) ?_
  simp only [yR, List.range'_zero, List.filter_nil, List.map_nil, List.append_nil] at hK
  exact hK.shift
 | m + 1, i, o, hi, ho, Kx, hK => by
  have ih := fun o' ho' hK' => qCL hl hL m (i + 1) o' (by omega) ho' (fun n => Kx (n + 1)) hK'
  rw [yR, List.range'_succ, List.filter_cons] at hK
  refine Ev.succ ?_
  simp only [Z69.l20, Z69.l20.b]
  refine Ev.pos (by simp; omega) ?_
  refine qAH hl hL (show i < l.length by omega) (o := o) (l.length - i) i [] (by omega) (by simp; omega) (fun n g h b i c => if decide ((c.length : Int) > 0) = true then grd (decide (b.length + ([c] : List (List Int)).length <= 2814749767106)) (Z69.l20 n g (IntKind.wrap .i64 (h + 1)) (b ++ [c]) i (Kx (n + 1))) else Z69.l20 n g (IntKind.wrap .i64 (h + 1)) b i (Kx (n + 1))) ?_
  rw [qG (x := (i : Int) + 1) (by omega) (by omega)]
  by_cases h1 : rd L i = (i : Int)
  ·rw [if_pos h1]
   rw [if_pos (by simpa using h1), List.map_cons] at hK
   have hne := qH6 (l := l) (m := l.length - i) h1 (by omega)
   rw [List.nil_append]
   refine Ev.pos (by simp; omega) (Ev.grd (by simp; omega) (ih _ (by simp; omega) ?_))
   rw [yR, List.append_assoc, List.singleton_append]; exact hK.shift
  ·rw [if_neg h1]
   rw [if_neg (by simpa using h1)] at hK
   refine Ev.neg (by simp) (ih _ (by omega) ?_)
   rw [yR]; exact hK.shift
def kW (d : List qP) (l : List qA) : List Int := qBX (qEi d l) l.length 0 (ran l.length)
theorem qMa {n : Nat} : Low n (ran n) := fun a ha => by
 rw [qHc ha]
 exact ⟨by omega, Int.le_refl _, by rw [Int.toNat_natCast, qHc ha]⟩
theorem qDV {d : List qP} {l : List qA} : (kW d l).length = l.length /\ Low l.length (kW d l) /\ qDo (yM (qEi d l)) l.length (kW d l) :=
 qFp l.length 0 (ran l.length) qGm (by omega) qMa (fun a b ha => by omega) fun Q hQ _ a b ha hb h => by
  rw [qHc ha, qHc hb] at h
  have : a = b := by omega
  subst this; exact hQ.refl _
theorem qHW {l : List qA} {L : List Int} (h : Low l.length L) : yR l L 0 l.length = zI L (fun k => (rd l k).1) l.length := by
 unfold yR zI
 rw [<- List.range_eq_range']
 have e1 : (List.range l.length).filter (fun i => decide (rd L i = (i : Int))) = (List.range l.length).filter (first L) := List.filter_congr fun i hi => by
  rw [Bool.eq_iff_iff, qFz h (List.mem_range.1 hi), decide_eq_true_eq]
 rw [e1]
 refine List.map_congr_left fun i hi => ?_
 have hin := List.mem_range.1 (List.mem_filter.1 hi).1
 have hfi := (qFz h hin).1 (List.mem_filter.1 hi).2
 rw [kK]
 have e2 : List.range l.length = List.range i ++ List.range' i (l.length - i) := by
  have := List.range'_append_1 (s := 0) (m := i) (n := l.length - i)
  rw [Nat.zero_add, show i + (l.length - i) = l.length by omega] at this
  rw [List.range_eq_range', List.range_eq_range', <- this]
 rw [e2, List.filter_append]
 have e3 : (List.range i).filter (fun k => decide (rd L k = rd L i)) = [] := by
  rw [List.filter_eq_nil_iff]
  intro k hk hh
  have hk := List.mem_range.1 hk
  have := (h k (by omega)).2.1
  have hh : rd L k = rd L i := by simpa using hh
  omega
 rw [e3, List.nil_append, hfi]
def xE (d : List qP) (l : List qA) : List (List Int) × Bool :=
 if qAy d l = true then (zI (kW d l) (fun k => (rd l k).1) l.length, true) else ([], false)
theorem qI3 {d : List qP} {l : List qA} (hd : d.length <= 1048576) (hg : qPg l) (R : Nat -> List (List Int) -> Bool -> Prop) (hR : Ev fun n => R n (xE d l).1 (xE d l).2) : Ev (fun n => Z69.c n d l (R n)) := by
 refine Ev.succ ?_
 simp only [Z69.c, Z69.w]
 rw [qKK (by omega) hg]
 refine Ev.ite (fun h => ?_) fun h => ?_
 ·rw [xE, if_neg (by simpa using h)] at hR
  exact hR.shift
 ·have h' : qAy d l = true := by simpa using h
  obtain ⟨a1, a2, a3, a4, a5⟩ := qBA h'
  rw [xE, if_pos h'] at hR
  have r0 : ran 0 = [] := rfl
  have lp := qDK a2 a1 a3 a4 hg (o := []) l.length 0 (by omega) (by omega)
  simp only [Int.toNat_zero, r0, List.take_zero, List.map_nil] at lp
  refine lp (fun n g h i j => Z69.l12 n g 0 h i j fun k l m => Z69.l20 n k 0 m l fun o => R (n + 1) o true) ?_
  refine qCN a1 a3 l.length 0 (ran l.length) (by omega) qGm (fun n k l m => Z69.l20 n k 0 m l fun o => R (n + 1) o true) ?_
  obtain ⟨b1, b2, b3⟩ := qDV (d := d) (l := l)
  refine qCL a3 b1 l.length 0 [] (by omega) (by simp; omega) (fun n o => R (n + 1) o true) ?_
  rw [List.nil_append, qHW b2]
  exact hR.shift
theorem qCW {α β : Type} [DecidableEq α] {k k' : α} {v : β} : ∀ {l : List (α × β)}, qCX (qIn l k v) k' = if k' = k then some v else qCX l k'
 | [] => by
  show (if k = k' then some v else none) = if k' = k then some v else none
  by_cases h : k' = k
  ·rw [if_pos h, if_pos h.symm]
  ·rw [if_neg h, if_neg (fun hh => h hh.symm)]
 | x :: r => by
  rw [qIn]
  by_cases hx : x.1 = k
  ·rw [if_pos hx, qCX]
   by_cases h : k' = k
   ·rw [if_pos h, if_pos h.symm]
   ·rw [if_neg h, if_neg (fun hh => h hh.symm), qCX, if_neg (fun hh => h (hh.symm.trans hx))]
  ·rw [if_neg hx, qCX, qCX, qCW]
   by_cases h : x.1 = k'
   ·rw [if_pos h, if_pos h, if_neg (fun hh => hx (h.trans hh))]
   ·rw [if_neg h, if_neg h]
def zG (L : List Int) (p : Nat) : List Nat := (List.range p).filter (first L)
theorem yG {L : List Int} {p i : Nat} : i ∈ zG L p ↔ i < p /\ ∀ j, j < i -> rd L j ≠ rd L i := by
 rw [zG, List.mem_filter, List.mem_range, yH]
theorem qFO {L : List Int} {p : Nat} : (zG L p).Nodup := List.Pairwise.filter _ List.nodup_range
theorem qC9 {L : List Int} {p : Nat} : zG L (p + 1) = zG L p ++ (if first L p = true then [p] else []) := by
 rw [zG, List.range_succ, List.filter_append, <- zG, List.filter_cons]; rfl
theorem qEE {L : List Int} : ∀ (p : Nat), ∃ i, i <= p /\ rd L i = rd L p /\ ∀ j, j < i -> rd L j ≠ rd L i
 | p => by
  by_cases h : ∀ j, j < p -> rd L j ≠ rd L p
  ·exact ⟨p, Nat.le_refl _, rfl, h⟩
  ·have ⟨j, hj⟩ := Classical.not_forall.1 h
   have ⟨h1, h2⟩ := Classical.not_imp.1 hj
   have h2 := Classical.not_not.1 h2
   obtain ⟨i, i1, i2, i3⟩ := qEE (L := L) j
   exact ⟨i, by omega, i2.trans h2, i3⟩
 termination_by p => p
theorem qH9 {L : List Int} {i i' : Nat} (h : ∀ j, j < i -> rd L j ≠ rd L i) (h' : ∀ j, j < i' -> rd L j ≠ rd L i') (he : rd L i = rd L i') : i = i' := by
 rcases Nat.lt_trichotomy i i' with h1 | h1 | h1
 ·exact absurd he (h' i h1)
 ·exact h1
 ·exact absurd he.symm (h i' h1)
structure qLX (L : List Int) (p : Nat) (mp : List (Int × Int)) : Prop where
 at_ : ∀ (idx i : Nat), (zG L p)[idx]? = some i -> qCX mp (rd L i) = some (idx : Int)
 none_ : ∀ x : Int, (∀ j, j < p -> rd L j ≠ x) -> qCX mp x = none
theorem qLX.zero {L : List Int} : qLX L 0 [] := ⟨fun idx i h => by simp [zG] at h, fun x _ => rfl⟩
theorem yK {α : Type} {L : List Int} {x : Nat -> α} {p : Nat} : (zI L x p).length = (zG L p).length := by rw [zI, List.length_map]; rfl
theorem qJD {α : Type} {L : List Int} {x : Nat -> α} {p : Nat} {mp : List (Int × Int)} (h : qLX L p mp) (hn : qCX mp (rd L p) = none) :
  zI L x (p + 1) = zI L x p ++ [[x p]] /\ qLX L (p + 1) (qIn mp (rd L p) ((zI L x p).length : Int)) := by
 have hf : ∀ j, j < p -> rd L j ≠ rd L p := fun j hj he => by
  obtain ⟨i, i1, i2, i3⟩ := qEE (L := L) j
  have hi : i ∈ zG L p := yG.2 ⟨by omega, i3⟩
  obtain ⟨idx, hidx, hget⟩ := List.getElem_of_mem hi
  have := h.at_ idx i (by rw [List.getElem?_eq_getElem hidx, hget])
  rw [i2, he, hn] at this
  cases this
 have hfp : first L p = true := yH.2 hf
 have e1 : zG L (p + 1) = zG L p ++ [p] := by rw [qC9, if_pos hfp]
 constructor
 ·unfold zI
  show (zG L (p + 1)).map _ = (zG L p).map _ ++ _
  rw [e1, List.map_append]
  congr 1
  ·refine List.map_congr_left fun i hi => ?_
   rw [List.range_succ, List.filter_append, List.filter_cons, if_neg (by
    have := (yG.1 hi).1
    simpa using fun hh => hf i this hh.symm)]
   simp
  ·rw [List.map_singleton, List.range_succ, List.filter_append, List.filter_cons, if_pos (by simp)]
   have : (List.range p).filter (fun k => decide (rd L k = rd L p)) = [] := by
    rw [List.filter_eq_nil_iff]
    intro k hk hh
    exact hf k (List.mem_range.1 hk) (by simpa using hh)
   rw [this]; rfl
 ·refine ⟨fun idx i hi => ?_, fun y hy => ?_⟩
  ·rw [qCW]
   rw [e1] at hi
   by_cases hlt : idx < (zG L p).length
   ·rw [List.getElem?_append_left hlt] at hi
    have hmem : i ∈ zG L p := List.mem_of_getElem? hi
    rw [if_neg (hf i (yG.1 hmem).1)]
    exact h.at_ idx i hi
   ·rw [List.getElem?_append_right (by omega)] at hi
    have hz : idx - (zG L p).length = 0 := by
     rcases Nat.eq_zero_or_pos (idx - (zG L p).length) with hh | hh
     ·exact hh
     ·rw [List.getElem?_eq_none (by simp; omega)] at hi; cases hi
    rw [hz] at hi
    simp only [List.getElem?_cons_zero, Option.some.injEq] at hi
    subst hi
    rw [if_pos rfl, yK]
    congr 1; omega
  ·rw [qCW, if_neg (fun hh => hy p (by omega) hh.symm)]
   exact h.none_ y fun j hj => hy j (by omega)
theorem qJC {α : Type} [Inhabited α] {L : List Int} {x : Nat -> α} {p : Nat} {mp : List (Int × Int)} (h : qLX L p mp) {v : Int} (hv : qCX mp (rd L p) = some v) :
  ∃ idx : Nat, v = (idx : Int) /\ idx < (zI L x p).length /\ zI L x (p + 1) = (zI L x p).set idx (rd (zI L x p) idx ++ [x p]) /\ qLX L (p + 1) mp := by
 obtain ⟨i, i1, i2, i3⟩ := qEE (L := L) p
 have hip : i ≠ p := by
  rintro rfl
  rw [h.none_ (rd L i) fun j hj => i3 j hj] at hv; cases hv
 have hi : i ∈ zG L p := yG.2 ⟨by omega, i3⟩
 obtain ⟨idx, hidx, hget⟩ := List.getElem_of_mem hi
 have hg : (zG L p)[idx]? = some i := by rw [List.getElem?_eq_getElem hidx, hget]
 have hat := h.at_ idx i hg
 rw [i2, hv] at hat
 simp only [Option.some.injEq] at hat
 have hnf : ¬ first L p = true := fun hh => yH.1 hh i (by omega) i2
 have e1 : zG L (p + 1) = zG L p := by rw [qC9, if_neg hnf, List.append_nil]
 refine ⟨idx, hat, by rw [yK]; exact hidx, ?_, ?_⟩
 ·refine List.ext_getElem? fun k => ?_
  have hcl : idx < (zI L x p).length := by rw [yK]; exact hidx
  rw [List.getElem?_set]
  have row : ∀ (q : Nat) (k : Nat), (zI L x q)[k]? = ((zG L q)[k]?).map fun i => ((List.range q).filter fun k => decide (rd L k = rd L i)).map x := fun q k => by
   rw [zI, List.getElem?_map]; rfl
  rw [row, e1]
  by_cases hk : idx = k
  ·subst hk
   rw [if_pos rfl, if_pos hcl, hg, rd, List.getD_eq_getElem?_getD, row, hg]
   simp only [Option.map_some, Option.getD_some, Option.some.injEq]
   rw [List.range_succ, List.filter_append, List.filter_cons, if_pos (by simpa using i2.symm), List.map_append]; rfl
  ·rw [if_neg hk, row]
   cases hh : (zG L p)[k]? with
   | none => rfl
   | some j =>
    simp only [Option.map_some, Option.some.injEq]
    rw [List.range_succ, List.filter_append, List.filter_cons, if_neg (by
     intro hc
     have hc : rd L p = rd L j := by simpa using hc
     have hj := yG.1 (List.mem_of_getElem? hh)
     have hij : i = j := qH9 i3 hj.2 (i2.trans hc)
     subst hij
     have hkl : k < (zG L p).length := by
      rcases Nat.lt_or_ge k (zG L p).length with h' | h'
      ·exact h'
      ·rw [List.getElem?_eq_none h'] at hh; cases hh
     have e2 : (zG L p)[k] = i := by rw [List.getElem?_eq_getElem hkl] at hh; simpa using hh
     have hpw := List.pairwise_iff_getElem.1 (qFO (L := L) (p := p))
     rcases Nat.lt_or_ge idx k with h' | h'
     ·exact hpw idx k hidx hkl h' (hget.trans e2.symm)
     ·exact hpw k idx hkl hidx (by omega) (e2.trans hget.symm))]
    simp
 ·refine ⟨fun k j hk => h.at_ k j (by rw [<- e1]; exact hk), fun y hy => h.none_ y fun j hj => hy j (by omega)⟩
theorem qDN {l : List qA} {e : List Int} : ∀ (m k : Nat), k + m <= 1048576 -> ∀ Kx : Nat -> List qA -> List Int -> List Int -> Prop, Ev (fun n => Kx n l (List.replicate (k + m) (-1)) e) ->
  Ev (fun n => Z12.l3 n l ((k + m : Nat) : Int) e (k : Int) (List.replicate k (-1) ++ List.replicate m 0) (Kx n))
 | 0, k, hk, Kx, hK => by
  refine Ev.succ ?_
  simp only [Z12.l3, Z12.l3.b]
  refine Ev.neg (by simp) ?_
  simp only [List.replicate_zero, List.append_nil]; exact hK.shift
 | m + 1, k, hk, Kx, hK => by
  have ih := qDN (l := l) (e := e) m (k + 1) (by omega) (fun n => Kx (n + 1)) (by rw [show k + 1 + m = k + (m + 1) by omega]; exact hK.shift)
  rw [show ((k + 1 + m : Nat) : Int) = ((k + (m + 1) : Nat) : Int) by omega] at ih
  have e1 : List.set (List.replicate k (-1 : Int) ++ List.replicate (m + 1) 0) k (-1) = List.replicate (k + 1) (-1) ++ List.replicate m 0 := by
   rw [List.set_append_right _ _ (by simp), List.length_replicate, Nat.sub_self, List.replicate_succ, List.set_cons_zero, List.replicate_succ', List.append_assoc]; rfl
  refine Ev.succ ?_
  simp only [Z12.l3, Z12.l3.b, Int.toNat_natCast, e1]
  refine Ev.pos (by simp; omega) (Ev.grd (by simp; omega) ?_)
  rw [qG (x := (k : Int) + 1) (by omega) (by omega)]
  exact ih
theorem qCP {d h : List qA} {e i j k q f g : Int} {o p L : List Int} (hl : L.length <= 1048576) {c : Nat} (hc : c <= L.length) : ∀ (m : Nat) (x : Int), x + m = c -> 0 <= x -> ∀ Kx : Nat -> List qA -> Int -> List qA -> Int -> Int -> Int -> Int -> List Int -> List Int -> List Int -> Prop,
  Ev (fun n => Kx n d e h i j k q o (vC c f g L) p) -> Ev (fun n => Z12.l19 n d e f g h i j k q (c : Int) o p x (vC x.toNat f g L) (Kx n))
 | 0, x, hx, h0, Kx, hK => by
  refine Ev.succ ?_
  simp only [Z12.l19, Z12.l19.b]
  refine Ev.neg (by simp; omega) ?_
  rw [show x.toNat = c by omega]; exact hK.shift
 | m + 1, x, hx, h0, Kx, hK => by
  have e1 := qDI (f := f) (t := g) (L := L) (k := x.toNat) (by omega)
  have ih := qCP (f := f) (g := g) hl hc m (x + 1) (by omega) (by omega) (fun n => Kx (n + 1)) hK.shift
  rw [show (x + 1).toNat = x.toNat + 1 by omega, <- e1] at ih
  refine Ev.succ ?_
  simp only [Z12.l19, Z12.l19.b, zU]
  refine Ev.pos (by simp; omega) (Ev.grd (by simp; omega) ?_)
  rw [qHb (by omega) (Nat.le_refl _), qG (x := x + 1) (by omega) (by omega)]
  refine Ev.ite (fun hf => Ev.grd (by simp; omega) ?_) fun hf => ?_
  ·rw [if_pos (by simpa using hf)] at ih; exact ih
  ·rw [if_neg (by simpa using hf)] at ih; exact ih
theorem qC5 {i : Nat} : ∀ {ys O L : List Int}, (vX i ys O L).1.length = O.length /\ (vX i ys O L).2.length = L.length
 | [], O, L => ⟨rfl, rfl⟩
 | v :: ys, O, L => by
  rw [vX]
  split
  ·obtain ⟨h1, h2⟩ := qC5 (i := i) (ys := ys) (O := O.set v.toNat (i : Int)) (L := L)
   exact ⟨by rw [h1, List.length_set], h2⟩
  ·obtain ⟨h1, h2⟩ := qC5 (i := i) (ys := ys) (O := O.set v.toNat (i : Int)) (L := vC (i + 1) (rd L i) (rd L (rd O v.toNat).toNat) L)
   exact ⟨by rw [h1, List.length_set], by rw [h2, zU]⟩
theorem qIM {O : List Int} {i : Nat} (h : ∀ w : Nat, rd O w <= (i : Int)) (v : Nat) : ∀ w : Nat, rd (O.set v (i : Int)) w <= (i : Int) := fun w => by
 by_cases hv : v < O.length
 ·rw [qCJ hv]; split
  ·exact Int.le_refl _
  ·exact h w
 ·rw [List.set_eq_of_length_le (by omega)]; exact h w
theorem qEB {i : Nat} : ∀ {ys O L : List Int}, (∀ w : Nat, rd O w <= (i : Int)) -> ∀ w : Nat, rd (vX i ys O L).1 w <= (i : Int)
 | [], O, L, h, w => h w
 | v :: ys, O, L, h, w => by
  rw [vX]
  split
  ·exact qEB (qIM h v.toNat) w
  ·exact qEB (qIM h v.toNat) w
theorem qCQ {l : List qA} {e2 e3 : Int} {i : Nat} {b : List Int} (hb : b.length <= 1048576) : ∀ (ys : List Int) (x : Int) (O L : List Int), b.drop x.toNat = ys -> 0 <= x -> i < L.length -> L.length <= 1048576 -> (∀ w : Nat, rd O w <= (i : Int)) -> (∀ v ∈ ys, 0 <= v /\ v.toNat < O.length) ->
  ∀ Kx : Nat -> List qA -> List qA -> Int -> Int -> List Int -> List Int -> Prop, Ev (fun n => Kx n l l e2 e3 (vX i ys O L).1 (vX i ys O L).2) -> Ev (fun n => Z12.l12 n l (i : Int) l e2 e3 (b.length : Int) x O L b (Kx n))
 | [], x, O, L, h, h0, hi, hL, hO, hv, Kx, hK => by
  have := qJ h h0
  refine Ev.succ ?_
  simp only [Z12.l12, Z12.l12.b]
  exact Ev.neg (by simp; omega) hK.shift
 | v :: ys, x, O, L, h, h0, hi, hL, hO, hv, Kx, hK => by
  obtain ⟨e1, e4, e5⟩ := qD h h0
  obtain ⟨v0, v1⟩ := hv v List.mem_cons_self
  have hov := hO v.toNat
  rw [vX] at hK
  have ih := fun L' hL1 hL2 hK' => qCQ (l := l) (e2 := e2) (e3 := e3) hb ys (x + 1) (O.set v.toNat (i : Int)) L' e5 (by omega) hL1 hL2 (qIM hO v.toNat) (fun w hw => by rw [List.length_set]; exact hv w (List.mem_cons_of_mem _ hw)) (fun n => Kx (n + 1)) hK'
  have w1 : IntKind.wrap .i64 (x + 1) = x + 1 := qG (by omega) (by omega)
  have w2 : IntKind.wrap .i64 ((i : Int) + 1) = ((i + 1 : Nat) : Int) := by rw [qG (by omega) (by omega)]; omega
  refine Ev.succ ?_
  simp only [Z12.l12, Z12.l12.b, Z12.j5, Z12.j4, e4, Int.toNat_natCast, w1, w2]
  refine Ev.pos (by simp; omega) (Ev.grd (by simp; omega) (Ev.grd (by simp; omega) (Ev.grd (by simp; omega) (Ev.ite (fun h1 => ?_) fun h1 => ?_))))
  ·have h1' : ¬ rd O v.toNat < 0 := by simpa using h1
   refine Ev.grd (by simp; omega) (Ev.grd (by simp; omega) (Ev.ite (fun h2 => ?_) fun h2 => ?_))
   ·rw [if_pos (.inr (by simpa using h2))] at hK
    exact ih L hi hL hK.shift
   ·have h2' : ¬ rd L (rd O v.toNat).toNat = rd L i := by simpa using h2
    rw [if_neg (fun hh => hh.elim h1' h2')] at hK
    refine Ev.grd (by simp; omega) (Ev.grd (by simp; omega) (Ev.grd (by simp; omega) ?_))
    have lp := qCP (d := l) (h := l) (e := (i : Int)) (i := e2) (j := e3) (k := (b.length : Int)) (q := x) (f := rd L i) (g := rd L (rd O v.toNat).toNat) (o := O.set v.toNat (i : Int)) (p := b) (L := L) (by omega) (c := i + 1) (by omega) (i + 1) 0 (by omega) (by omega)
     (fun n p q r s t u v w y z => Z12.l12 n p q r s t u (IntKind.wrap .i64 (v + 1)) w y z (Kx (n + 1)))
    simp only [Int.toNat_zero, qDH, w1] at lp
    rw [show (i + 1 - 0 : Nat) = i + 1 from rfl]
    exact lp (ih _ (by rw [zU]; exact hi) (by rw [zU]; exact hL) hK.shift)
  ·have h1' : rd O v.toNat < 0 := by simpa using h1
   rw [if_pos (.inl h1')] at hK
   exact Ev.pos (by simp) (ih L hi hL hK.shift)
section
variable {d : List qP} (hdl : d.length <= 60) {l : List qA} (hl : l.length <= 60) (hw : ∀ y ∈ l, ¬ jG d y.2.2.1 < 0 /\ ¬ jG d y.2.2.2 < 0)
include hdl hl hw
omit hdl hl hw in
theorem qMT {y : qA} (hy : y ∈ l) : ∀ v ∈ vI d y, 0 <= v /\ v.toNat < d.length := fun v hv => by
 rw [vI, qDQ, List.mem_append] at hv
 rcases hv with hv | hv
 ·have := yE.1 hv; omega
 ·have := yE.1 hv; omega
theorem qDL : ∀ (m i : Nat) (O L : List Int), i + m = l.length -> O.length = d.length -> L.length = l.length -> (∀ w : Nat, rd O w <= (i : Int)) -> ∀ Kx : Nat -> List qA -> List Int -> Prop,
  Ev (fun n => Kx n l (qBb (qEi d l) m i O L)) -> Ev (fun n => Z12.l8 n l l (l.length : Int) (i : Int) O L (Kx n))
 | 0, i, O, L, hi, hO, hL, hle, Kx, hK => by
  refine Ev.succ ?_
  simp only [Z12.l8, Z12.l8.b]
  exact Ev.neg (by simp; omega) hK.shift
 | m + 1, i, O, L, hi, hO, hL, hle, Kx, hK => by
  have hm : rd l i ∈ l := qBv (by omega)
  have v1 := qIz (d := d) (y := rd l i)
  rw [qBb] at hK
  have jl := qC5 (i := i) (ys := vI d (rd l i)) (O := O) (L := L.set i (i : Int))
  have ih := qDL m (i + 1) (vX i (qEi d l i) O (L.set i (i : Int))).1 (vX i (qEi d l i) O (L.set i (i : Int))).2 (by omega) (jl.1.trans hO) (jl.2.trans (by rw [List.length_set]; exact hL)) (fun w => by
   have := qEB (i := i) (ys := qEi d l i) (O := O) (L := L.set i (i : Int)) hle w; omega) (fun n => Kx (n + 1)) hK.shift
  refine Ev.succ ?_
  simp only [Z12.l8, Z12.l8.b, Int.toNat_natCast]
  refine Ev.pos (by simp; omega) (Ev.grd (by simp; omega) (Ev.grd (by simp; omega) ?_))
  refine qIx hdl (hw _ hm).1 (hw _ hm).2 _ ?_
  refine qCQ (l := l) (e2 := (l.length : Int)) (e3 := (i : Int)) (i := i) (b := vI d (rd l i)) (by omega) (vI d (rd l i)) 0 O (L.set i (i : Int)) rfl (by omega) (by rw [List.length_set]; omega) (by rw [List.length_set]; omega) hle (fun v hv => by rw [hO]; exact qMT hm v hv)
   (fun n k l m o r s => Z12.l8 n k l m (IntKind.wrap .i64 (o + 1)) r s (Kx (n + 1))) ?_
  rw [qG (x := (i : Int) + 1) (by omega) (by omega)]
  exact ih
omit hdl hw in
theorem qCO {L : List Int} (hL : L.length = l.length) : ∀ (m i : Nat) (mp : List (Int × Int)), i + m = l.length -> qLX L i mp -> ∀ Kx : Nat -> List (List qA) -> Prop,
  Ev (fun n => Kx n (zI L (rd l) l.length)) -> Ev (fun n => Z12.l28 n l (l.length : Int) L (i : Int) (zI L (rd l) i) mp (Kx n))
 | 0, i, mp, hi, hM, Kx, hK => by
  refine Ev.succ ?_
  simp only [Z12.l28, Z12.l28.b]
  refine Ev.neg (by simp; omega) ?_
  rw [show i = l.length by omega]; exact hK.shift
 | m + 1, i, mp, hi, hM, Kx, hK => by
  have ih := fun mp' hM' => qCO hL m (i + 1) mp' (by omega) hM' (fun n => Kx (n + 1)) hK.shift
  have cl : (zI L (rd l) i).length <= i := by
   rw [yK]
   have := List.length_filter_le (first L) (List.range i)
   rw [List.length_range] at this; exact this
  have eta : ∀ y : qA, (y.1, y.2.1, y.2.2.1, y.2.2.2) = y := fun y => rfl
  have w1 : IntKind.wrap .i64 ((i : Int) + 1) = ((i + 1 : Nat) : Int) := by rw [qG (by omega) (by omega)]; omega
  refine Ev.succ ?_
  simp only [Z12.l28, Z12.l28.b, and_self, Int.toNat_natCast, eta, w1]
  refine Ev.pos (by simp; omega) (Ev.grd (by simp; omega) (Ev.grd (by simp; omega) ?_))
  rcases Option.eq_none_or_eq_some (qCX mp (rd L i)) with hg | ⟨v, hg⟩
  ·simp only [hg]
   obtain ⟨g1, g2⟩ := qJD (x := rd l) hM hg
   have e0 : rd (zI L (rd l) i ++ [([] : List qA)]) (zI L (rd l) i).length = [] := by
    rw [rd, List.getD_eq_getElem?_getD, List.getElem?_append_right (Nat.le_refl _), Nat.sub_self]; rfl
   have e1 : List.set (zI L (rd l) i ++ [([] : List qA)]) (zI L (rd l) i).length [rd l i] = zI L (rd l) (i + 1) := by
    rw [List.set_append_right _ _ (Nat.le_refl _), Nat.sub_self, List.set_cons_zero, g1]
   refine Ev.pos (by simp) (Ev.grd (by simp; omega) (Ev.grd (by simp; omega) (Ev.grd (by simp; omega) ?_)))
   simp only [e0, List.nil_append, e1]
   exact Ev.grd (by simp) (Ev.grd (by simp; omega) (Ev.grd (by simp) (ih _ g2)))
  ·simp only [hg]
   obtain ⟨idx, rfl, g1, g2, g3⟩ := qJC (x := rd l) hM hg
   have hrow : (rd (zI L (rd l) i) idx).length <= i := by
    rw [rd, List.getD_eq_getElem?_getD, zI, List.getElem?_map]
    cases ((List.range i).filter (first L))[idx]? with
    | none => exact Nat.zero_le _
    | some j =>
     simp only [Option.map_some, Option.getD_some, List.length_map]
     have := List.length_filter_le (fun k => decide (rd L k = rd L j)) (List.range i)
     rw [List.length_range] at this; exact this
   refine Ev.neg (by simp) ?_
   simp only [Option.getD_some, Int.toNat_natCast, <- g2]
   exact Ev.grd (by simp; omega) (Ev.grd (by simp; omega) (Ev.grd (by simp; omega) (Ev.grd (by simp) (ih _ g3))))
end
theorem qLl {b : List qA} (hb : b.length <= 1048576) : ∀ (m : Nat) (x : Int), x + m = b.length -> 0 <= x -> ∀ Kx : Nat -> List Int -> Prop, Ev (fun n => Kx n (b.map (·.1))) -> Ev (fun n => Z8.l3 n b (b.length : Int) x ((b.take x.toNat).map (·.1)) (Kx n))
 | 0, x, hx, h0, Kx, hK => by
  refine Ev.succ ?_
  simp only [Z8.l3, Z8.l3.b]
  refine Ev.neg (by simp; omega) ?_
  rw [show x.toNat = b.length by omega, List.take_length]; exact hK.shift
 | m + 1, x, hx, h0, Kx, hK => by
  have ih := qLl hb m (x + 1) (by omega) (by omega) (fun n => Kx (n + 1)) hK.shift
  rw [show (x + 1).toNat = x.toNat + 1 by omega, qBs (by omega), List.map_append] at ih
  refine Ev.succ ?_
  simp only [Z8.l3, Z8.l3.b]
  refine Ev.pos (by simp; omega) (Ev.grd (by simp; omega) (Ev.grd (by simp; omega) ?_))
  rw [qG (x := x + 1) (by omega) (by omega)]
  exact ih
theorem qM9 {b : List qA} (hb : b.length <= 1048576) (R : Nat -> List Int -> Prop) (hR : Ev fun n => R n (b.map (·.1))) : Ev (fun n => Z8.c n b (R n)) := by
 refine Ev.succ ?_
 simp only [Z8.c, Z8.w]
 exact qLl hb b.length 0 (by omega) (by omega) (fun n => R (n + 1)) hR.shift
theorem qDM {c : List (List qA)} (hc : c.length <= 1048576) (hcc : ∀ z ∈ c, z.length <= 1048576) : ∀ (m : Nat) (x : Int), x + m = c.length -> 0 <= x -> ∀ Kx : Nat -> List (List Int) -> Prop, Ev (fun n => Kx n (c.map fun z => z.map (·.1))) ->
  Ev (fun n => Z3.l5 n (c.length : Int) c x ((c.take x.toNat).map fun z => z.map (·.1)) (Kx n))
 | 0, x, hx, h0, Kx, hK => by
  refine Ev.succ ?_
  simp only [Z3.l5, Z3.l5.b]
  refine Ev.neg (by simp; omega) ?_
  rw [show x.toNat = c.length by omega, List.take_length]; exact hK.shift
 | m + 1, x, hx, h0, Kx, hK => by
  have ih := qDM hc hcc m (x + 1) (by omega) (by omega) (fun n => Kx (n + 1)) hK.shift
  rw [show (x + 1).toNat = x.toNat + 1 by omega, qBs (by omega), List.map_append] at ih
  refine Ev.succ ?_
  simp only [Z3.l5, Z3.l5.b]
  refine Ev.pos (by simp; omega) (Ev.grd (by simp; omega) (qM9 (hcc _ (qBv (by omega))) _ (Ev.grd (by simp; omega) ?_)))
  rw [qG (x := x + 1) (by omega) (by omega)]
  exact ih
def kX (d : List qP) (l : List qA) : List Int := qBb (qEi d l) l.length 0 (List.replicate d.length (-1)) (List.replicate l.length 0)
theorem qH5 {d : List qP} {l : List qA} (hdl : d.length <= 60) (hl : l.length <= 60) (hw : ∀ y ∈ l, ¬ jG d y.2.2.1 < 0 /\ ¬ jG d y.2.2.2 < 0) : (kX d l).length = l.length /\ qDo (yM (qEi d l)) l.length (kX d l) := by
 have hv : ∀ j, j < l.length -> (qEi d l j).Nodup /\ ∀ v ∈ qEi d l j, 0 <= v /\ v.toNat < (List.replicate d.length (-1 : Int)).length := fun j hj =>
  ⟨(qBU (qAs d (rd l j).2.2.1 ++ qAs d (rd l j).2.2.2)).imp fun h => Int.ne_of_lt h, fun v hv => by
   rw [List.length_replicate]; exact qMT (qBv hj) v hv⟩
 have ho : ∀ w : Nat, w < (List.replicate d.length (-1 : Int)).length -> qPq (qEi d l) 0 (rd (List.replicate d.length (-1 : Int)) w) (w : Int) := fun w hw' => by
  rw [List.length_replicate] at hw'
  have : rd (List.replicate d.length (-1 : Int)) w = -1 := by rw [rd, List.getD_eq_getElem?_getD, List.getElem?_replicate, if_pos hw']; rfl
  rw [this]
  exact ⟨fun _ j hj => by omega, fun h => by omega⟩
 obtain ⟨h1, h2, _⟩ := qFF (vs := qEi d l) (n := l.length) l.length 0 (List.replicate d.length (-1)) (List.replicate l.length 0) (by simp) (by omega) hv ho (fun a b ha => by omega) (fun Q hQ _ a b ha => by omega) (fun a ha => by omega)
 exact ⟨h1, h2⟩
theorem qI4 {d : List qP} {l : List qA} (hd : d.length <= 1048576) (R : Nat -> List (List Int) -> Bool -> Prop) (hR : Ev fun n => R n (xE d l).1 (xE d l).2) : Ev (fun n => Z3.c n d l (R n)) := by
 refine Ev.succ ?_
 simp only [Z3.c, Z3.w]
 rw [qJl (by omega)]
 refine Ev.ite (fun h => ?_) fun h => ?_
 ·rw [xE, if_neg (by simpa using h)] at hR
  exact hR.shift
 ·have h' : qAy d l = true := by simpa using h
  obtain ⟨a1, a2, a3, a4, a5⟩ := qBA h'
  rw [xE, if_pos h'] at hR
  obtain ⟨b1, b2⟩ := qH5 a1 a3 a4
  obtain ⟨c1, c2, c3⟩ := qDV (d := d) (l := l)
  have fin : (zI (kX d l) (rd l) l.length).map (fun z => z.map (·.1)) = zI (kW d l) (fun k => (rd l k).1) l.length := by
   rw [qIi (M := kW d l) fun a b ha hb => b2.same c3 ha hb, zI, zI, List.map_map]
   refine List.map_congr_left fun i _ => ?_
   rw [Function.comp, List.map_map]; rfl
  have cl : (zI (kX d l) (rd l) l.length).length <= l.length := by
   rw [yK]
   have := List.length_filter_le (first (kX d l)) (List.range l.length)
   rw [List.length_range] at this; exact this
  have cll : ∀ z ∈ zI (kX d l) (rd l) l.length, z.length <= 1048576 := fun z hz => by
   rw [zI, List.mem_map] at hz
   obtain ⟨i, _, rfl⟩ := hz
   rw [List.length_map]
   have := List.length_filter_le (fun k => decide (rd (kX d l) k = rd (kX d l) i)) (List.range l.length)
   rw [List.length_range] at this; omega
  refine Ev.succ ?_
  simp only [Z12.c, Z12.w, Z12.j6, and_self, Int.toNat_natCast, List.length_replicate]
  refine Ev.and ?_ ?_
  all_goals
   refine Ev.grd (by simp; omega) (Ev.grd (by simp; omega) ?_)
   have lp := qDN (l := l) (e := List.replicate l.length 0) d.length 0 (by omega)
   simp only [Nat.zero_add, List.replicate_zero, List.nil_append] at lp
   refine lp (fun n a i j => Z12.l8 n a a (a.length : Int) 0 i j fun c k => Z12.l28 n c (c.length : Int) k 0 [] [] fun c => Z3.l5 (n + 1) (c.length : Int) c 0 [] fun f => R (n + 1 + 1) f true) ?_
   refine qDL a1 a3 a4 l.length 0 (List.replicate d.length (-1)) (List.replicate l.length 0) (by omega) (by simp) (by simp) (fun w => ?_) (fun n c k => Z12.l28 n c (c.length : Int) k 0 [] [] fun c => Z3.l5 (n + 1) (c.length : Int) c 0 [] fun f => R (n + 1 + 1) f true) ?_
   ·rw [rd, List.getD_eq_getElem?_getD, List.getElem?_replicate]; split
    ·show (-1 : Int) <= _; omega
    ·show (0 : Int) <= _; omega
   ·refine qCO a3 b1 l.length 0 [] (by omega) qLX.zero (fun n c => Z3.l5 (n + 1) (c.length : Int) c 0 [] fun f => R (n + 1 + 1) f true) ?_
    have l5 := qDM (c := zI (kX d l) (rd l) l.length) (by omega) cll (zI (kX d l) (rd l) l.length).length 0 (by omega) (by omega) (fun n f => R (n + 1) f true) (by rw [fin]; exact hR.shift)
    exact l5.shift
def qGD : Nat -> Int -> List UInt8 -> List UInt8
 | 0, _, out => out
 | f + 1, k, out => if k > 0 then qGD f (k / 10) (zZ [48 + k % 10] ++ out) else out
theorem qFV : ∀ (f : Nat) (k : Int) (out : List UInt8), (qGD f k out).length <= out.length + f
 | 0, k, out => Nat.le_refl _
 | f + 1, k, out => by
  rw [qGD]
  split
  ·have := qFV f (k / 10) (zZ [48 + k % 10] ++ out)
   have e : (zZ [48 + k % 10]).length = 1 := rfl
   rw [List.length_append, e] at this
   omega
  ·omega
theorem qIe {k : Int} (h : 0 < k) (hb : k < 9223372036854775808) : IntKind.wrap .u8 (IntKind.wrap .i64 (48 + Int.tmod k 10)) = 48 + k % 10 := by
 rw [qL0 (by omega), qG (by omega) (by omega), qMS (by omega) (by omega)]
theorem qHl : ∀ (f : Nat) (k : Int) (out : List UInt8), k < 10 ^ f -> k < 9223372036854775808 -> out.length + f <= 1000 -> ∀ (Kx : Nat -> List UInt8 -> Prop),
  (Ev (fun n => Z37.l4 n k out (Kx n)) ↔ Ev (fun n => Kx n (qGD f k out)))
 | 0, k, out, h, hb, hl, Kx => by
  have h : k < 1 := h
  refine Ev.suc.trans ?_
  simp (disch := omega) only [Z37.l4, Z37.l4.b, if_neg, decide_eq_true_eq, Ev.s1 Kx, qGD]
 | f + 1, k, out, h, hb, hl, Kx => by
  rw [qGD]
  refine Ev.suc.trans ?_
  simp only [Z37.l4, Z37.l4.b, Ev.iteI, decide_eq_true_eq]
  by_cases hk : k > 0
  ·rw [if_pos hk, if_pos hk]
   have e : IntKind.wrap .i64 (Int.tdiv k 10) = k / 10 := by rw [qKv (by omega), qG (by omega) (by omega)]
   have hp : (10 : Int) ^ (f + 1) = 10 ^ f * 10 := Int.pow_succ 10 f
   simp (disch := (simp only [zZ, List.map_cons, List.map_nil, List.length_cons, List.length_nil]; omega)) only [qIe hk hb, e, kL]
   rw [qHl f (k / 10) _ (by omega) (by omega) (by simp only [zZ, List.map_cons, List.map_nil, List.length_append, List.length_cons, List.length_nil]; omega), Ev.s1 Kx]
  ·rw [if_neg hk, if_neg hk, Ev.s1 Kx]
def qMi (k : Int) : List UInt8 := [109] ++ qGD 19 k []
theorem qGt {k : Int} (h : 0 < k) (hb : k <= 4611686018427387904) (R : Nat -> List UInt8 -> Prop) :
  Ev (fun n => Z37.c n k (R n)) ↔ Ev (fun n => R n (qMi k)) := by
 refine Ev.suc.trans ?_
 have := qFV 19 k []
 simp only [List.length_nil] at this
 simp only [Z37.c, Z37.w, Ev.iteI, decide_eq_true_eq]
 rw [if_neg (by omega), qHl 19 k [] (by omega) (by omega) (by simp)]
 simp (disch := (simp only [List.length_cons, List.length_nil]; omega)) only [kL, Ev.s1 R, qMi]
theorem qOp {a0 : List UInt8} {a1 : Int} {left : Int} (h0 : -1 <= left) (h1 : left <= 1099511627776) (h2 : a0.length <= 9223372036854775807) (R : Nat -> Int -> Prop) :
  Ev (fun n => Z40.c n a0 a1 left (R n)) ↔ Ev (fun n => R n (szr left (a0.length))) := by
 refine Ev.suc.trans ?_
 simp (disch := first | assumption | omega | exact qFa (by assumption) | exact xL (by assumption) (by assumption)) only [Z40.c, Z40.w, qG, Ev.iteI, decide_eq_true_eq, Ev.s1 R]
 unfold szr; (repeat' split) <;> first | rfl | (exfalso; omega) | exact jN (by omega)
def yC : List qP -> Nat
 | [] => 0
 | y :: r => y.1.length + yC r
theorem qDD {y : qP} : ∀ {l : List qP}, y ∈ l -> y.1.length <= yC l
 | [], h => absurd h List.not_mem_nil
 | a :: l, h => by
  rw [yC]
  rcases List.mem_cons.1 h with rfl | h
  ·omega
  ·have := qDD h; omega
abbrev qMR : Ty := .prod .str (.int .i64)
theorem qHP {l : List qP} (h : Gd (.sl 0 qMR) l) : ∀ y : qP, y ∈ l -> y.1.length <= 9223372036854775807 := fun y hy => (h.2 y hy).1
theorem qLD {l : List qP} (hl : l.length <= 9223372036854775807) : ∀ (ys : List qP) (x left : Int), l.drop x.toNat = ys -> 0 <= x -> 0 <= left -> left <= 1099511627776 -> (∀ y ∈ ys, y.1.length <= 9223372036854775807) -> ∀ (Kx : Nat -> Int -> Prop),
  (Ev (fun n => Z41.l5 n l left x (Kx n) (Kx n)) ↔ Ev (fun n => Kx n (szr left (yC ys))))
 | [], x, left, h, h0, h1, h2, hy, Kx => by
  have := qJ h h0
  refine Ev.suc.trans ?_
  simp (disch := omega) only [Z41.l5, Z41.l5.b, if_neg, decide_eq_true_eq, Ev.s1 Kx, yC]
  refine jN ?_; unfold szr; split <;> omega
 | y :: ys, x, left, h, h0, h1, h2, hy, Kx => by
  obtain ⟨e1, e2, e3⟩ := qD h h0
  have hy0 := hy y List.mem_cons_self
  refine Ev.suc.trans ?_
  simp (disch := first | assumption | exact hy0.1 | exact hy0.2 | exact hy0.2.1 | exact hy0.2.2 | exact hy0.2.2.1 | exact hy0.2.2.2 | omega) only [Z41.l5, Z41.l5.b, if_pos, decide_eq_true_eq, Ev.s1 Kx, qF, e2, qOp, Ev.iteI, qG]
  split
  ·rename_i hs
   rw [yC, qEk hs]
  ·rename_i hs
   rw [qLD hl ys (x + 1) _ e3 (by omega) (by omega) (xL (by omega) h2) (fun y hy' => hy y (List.mem_cons_of_mem _ hy')), yC, qGg h1 hs, Ev.s1 Kx]
theorem qOn {l : List qP} {left : Int} (h0 : -1 <= left) (h1 : left <= 1099511627776) (hl : l.length <= 9223372036854775807) (hy : ∀ y ∈ l, y.1.length <= 9223372036854775807) (R : Nat -> Int -> Prop) :
  Ev (fun n => Z41.c n l left (R n)) ↔ Ev (fun n => R n (szr left (l.length + yC l))) := by
 refine Ev.suc.trans ?_
 simp (disch := omega) only [Z41.c, Z41.w, qG, Ev.iteI, decide_eq_true_eq, Ev.s1 R]
 split
 ·refine jN ?_; unfold szr; split <;> omega
 ·rw [qLD hl l 0 _ rfl (by omega) (by omega) (by omega) hy, Ev.s1 R]
  refine jN ?_; unfold szr; (repeat' split) <;> omega
theorem qN9 {l : List Int} {left : Int} (h0 : -1 <= left) (h1 : left <= 1099511627776) (hl : l.length <= 9223372036854775807) (R : Nat -> Int -> Prop) :
  Ev (fun n => Z48.c n l left (R n)) ↔ Ev (fun n => R n (szr left l.length)) := by
 refine Ev.suc.trans ?_
 simp (disch := omega) only [Z48.c, Z48.w, qG, Ev.iteI, decide_eq_true_eq, Ev.s1 R]
 unfold szr; split <;> split <;> first | rfl | omega | exact jN (by omega)
theorem qOr {a0 : Int} {a1 : List Int} {left : Int} (h0 : -1 <= left) (h1 : left <= 1099511627776) (h2 : a1.length <= 9223372036854775807) (R : Nat -> Int -> Prop) :
  Ev (fun n => Z39.c n a0 a1 left (R n)) ↔ Ev (fun n => R n (szr left (a1.length))) := by
 refine Ev.suc.trans ?_
 simp (disch := first | assumption | omega | exact qFa (by assumption) | exact xL (by assumption) (by assumption)) only [Z39.c, Z39.w, qN9, qG, Ev.iteI, decide_eq_true_eq, Ev.s1 R]
 unfold szr; (repeat' split) <;> first | rfl | (exfalso; omega) | exact jN (by omega)
theorem qOl {l : List Int} {left : Int} (h0 : -1 <= left) (h1 : left <= 1099511627776) (hl : l.length <= 9223372036854775807) (R : Nat -> Int -> Prop) :
  Ev (fun n => Z42.c n l left (R n)) ↔ Ev (fun n => R n (szr left l.length)) := by
 refine Ev.suc.trans ?_
 simp (disch := omega) only [Z42.c, Z42.w, qG, Ev.iteI, decide_eq_true_eq, Ev.s1 R]
 unfold szr; split <;> split <;> first | rfl | omega | exact jN (by omega)
theorem qOf {a0 : Int} {a1 : Int} {a2 : Int} {a3 : Int} {a4 : Int} {a5 : List Int} {a6 : List Int} {left : Int} (h0 : -1 <= left) (h1 : left <= 1099511627776) (h2 : a5.length <= 9223372036854775807) (h3 : a6.length <= 9223372036854775807) (R : Nat -> Int -> Prop) :
  Ev (fun n => Z45.c n a0 a1 a2 a3 a4 a5 a6 left (R n)) ↔ Ev (fun n => R n (szr left (a5.length + a6.length))) := by
 refine Ev.suc.trans ?_
 simp (disch := first | assumption | omega | exact qFa (by assumption) | exact xL (by assumption) (by assumption)) only [Z45.c, Z45.w, qOr, qOl, qG, Ev.iteI, decide_eq_true_eq, Ev.s1 R]
 unfold szr; (repeat' split) <;> first | rfl | (exfalso; omega) | exact jN (by omega)
def jR : List qB -> Nat
 | [] => 0
 | y :: r => (y.2.2.2.2.2.1.length + y.2.2.2.2.2.2.length) + jR r
theorem vK {y : qB} : ∀ {l : List qB}, y ∈ l -> y.2.2.2.2.2.1.length + y.2.2.2.2.2.2.length <= jR l
 | [], h => absurd h List.not_mem_nil
 | a :: l, h => by
  rw [jR]
  rcases List.mem_cons.1 h with rfl | h
  ·omega
  ·have := vK h; omega
abbrev qMQ : Ty := .prod (.int .i64) (.prod (.int .i64) (.prod (.int .i64) (.prod (.int .i64) (.prod (.int .i64) (.prod (.sl 0 (.int .u64)) (.sl 0 (.int .i64)))))))
theorem qLB {l : List qB} (hl : l.length <= 9223372036854775807) : ∀ (ys : List qB) (x left : Int), l.drop x.toNat = ys -> 0 <= x -> 0 <= left -> left <= 1099511627776 -> (∀ y ∈ ys, y.2.2.2.2.2.1.length <= 9223372036854775807 /\ y.2.2.2.2.2.2.length <= 9223372036854775807) -> ∀ (Kx : Nat -> Int -> Prop),
  (Ev (fun n => Z46.l5 n l left x (Kx n) (Kx n)) ↔ Ev (fun n => Kx n (szr left (jR ys))))
 | [], x, left, h, h0, h1, h2, hy, Kx => by
  have := qJ h h0
  refine Ev.suc.trans ?_
  simp (disch := omega) only [Z46.l5, Z46.l5.b, if_neg, decide_eq_true_eq, Ev.s1 Kx, jR]
  refine jN ?_; unfold szr; split <;> omega
 | y :: ys, x, left, h, h0, h1, h2, hy, Kx => by
  obtain ⟨e1, e2, e3⟩ := qD h h0
  have hy0 := hy y List.mem_cons_self
  refine Ev.suc.trans ?_
  simp (disch := first | assumption | exact hy0.1 | exact hy0.2 | exact hy0.2.1 | exact hy0.2.2 | exact hy0.2.2.1 | exact hy0.2.2.2 | omega) only [Z46.l5, Z46.l5.b, if_pos, decide_eq_true_eq, Ev.s1 Kx, qF, e2, qOf, Ev.iteI, qG]
  split
  ·rename_i hs
   rw [jR, qEk hs]
  ·rename_i hs
   rw [qLB hl ys (x + 1) _ e3 (by omega) (by omega) (xL (by omega) h2) (fun y hy' => hy y (List.mem_cons_of_mem _ hy')), jR, qGg h1 hs, Ev.s1 Kx]
theorem qOd {l : List qB} {left : Int} (h0 : -1 <= left) (h1 : left <= 1099511627776) (hl : l.length <= 9223372036854775807) (hy : ∀ y ∈ l, y.2.2.2.2.2.1.length <= 9223372036854775807 /\ y.2.2.2.2.2.2.length <= 9223372036854775807) (R : Nat -> Int -> Prop) :
  Ev (fun n => Z46.c n l left (R n)) ↔ Ev (fun n => R n (szr left (l.length + jR l))) := by
 refine Ev.suc.trans ?_
 simp (disch := omega) only [Z46.c, Z46.w, qG, Ev.iteI, decide_eq_true_eq, Ev.s1 R]
 split
 ·refine jN ?_; unfold szr; split <;> omega
 ·rw [qLB hl l 0 _ rfl (by omega) (by omega) (by omega) hy, Ev.s1 R]
  refine jN ?_; unfold szr; (repeat' split) <;> omega
theorem qOb {a0 : List (Int × Int × Int × Int × Int × List (Int) × List (Int))} {left : Int} (h0 : -1 <= left) (h1 : left <= 1099511627776) (h2 : a0.length <= 9223372036854775807) (h3 : (∀ y : qB, y ∈ a0 -> y.2.2.2.2.2.1.length <= 9223372036854775807 /\ y.2.2.2.2.2.2.length <= 9223372036854775807)) (R : Nat -> Int -> Prop) :
  Ev (fun n => Z47.c n a0 left (R n)) ↔ Ev (fun n => R n (szr left ((a0.length + jR a0)))) := by
 refine Ev.suc.trans ?_
 simp (disch := first | assumption | omega | exact qFa (by assumption) | exact xL (by assumption) (by assumption)) only [Z47.c, Z47.w, qOd, qG, Ev.iteI, decide_eq_true_eq, Ev.s1 R]
 unfold szr; (repeat' split) <;> first | rfl | (exfalso; omega) | exact jN (by omega)
theorem qOj {a0 : Int} {a1 : Bool} {a2 : List (Int × Int × Int × Int × Int × List (Int) × List (Int))} {a3 : List (Int × Int × Int × Int × Int × List (Int) × List (Int))} {left : Int} (h0 : -1 <= left) (h1 : left <= 1099511627776) (h2 : a2.length <= 9223372036854775807) (h3 : (∀ y : qB, y ∈ a2 -> y.2.2.2.2.2.1.length <= 9223372036854775807 /\ y.2.2.2.2.2.2.length <= 9223372036854775807)) (h4 : a3.length <= 9223372036854775807) (h5 : (∀ y : qB, y ∈ a3 -> y.2.2.2.2.2.1.length <= 9223372036854775807 /\ y.2.2.2.2.2.2.length <= 9223372036854775807)) (R : Nat -> Int -> Prop) :
  Ev (fun n => Z43.c n a0 a1 a2 a3 left (R n)) ↔ Ev (fun n => R n (szr left (((a2.length + jR a2)) + ((a3.length + jR a3))))) := by
 refine Ev.suc.trans ?_
 simp (disch := first | assumption | omega | exact qFa (by assumption) | exact xL (by assumption) (by assumption)) only [Z43.c, Z43.w, qOb, qG, Ev.iteI, decide_eq_true_eq, Ev.s1 R]
 unfold szr; (repeat' split) <;> first | rfl | (exfalso; omega) | exact jN (by omega)
def jV : List qA -> Nat
 | [] => 0
 | y :: r => (((y.2.2.1.length + jR y.2.2.1)) + ((y.2.2.2.length + jR y.2.2.2))) + jV r
theorem vU {y : qA} : ∀ {l : List qA}, y ∈ l -> ((y.2.2.1.length + jR y.2.2.1)) + ((y.2.2.2.length + jR y.2.2.2)) <= jV l
 | [], h => absurd h List.not_mem_nil
 | a :: l, h => by
  rw [jV]
  rcases List.mem_cons.1 h with rfl | h
  ·omega
  ·have := vU h; omega
abbrev qEg : Ty := .prod (.int .i64) (.prod .bool (.prod (.sl 0 (.prod (.int .i64) (.prod (.int .i64) (.prod (.int .i64) (.prod (.int .i64) (.prod (.int .i64) (.prod (.sl 0 (.int .u64)) (.sl 0 (.int .i64))))))))) (.sl 0 (.prod (.int .i64) (.prod (.int .i64) (.prod (.int .i64) (.prod (.int .i64) (.prod (.int .i64) (.prod (.sl 0 (.int .u64)) (.sl 0 (.int .i64)))))))))))
theorem qEm {l : List qA} (h : Gd (.sl 0 qEg) l) : ∀ y : qA, y ∈ l -> y.2.2.1.length <= 9223372036854775807 /\ (∀ z : qB, z ∈ y.2.2.1 -> z.2.2.2.2.2.1.length <= 9223372036854775807 /\ z.2.2.2.2.2.2.length <= 9223372036854775807) /\ y.2.2.2.length <= 9223372036854775807 /\ (∀ z : qB, z ∈ y.2.2.2 -> z.2.2.2.2.2.1.length <= 9223372036854775807 /\ z.2.2.2.2.2.2.length <= 9223372036854775807) := fun y hy => ⟨(h.2 y hy).2.2.1.1, (fun z hz => ⟨((h.2 y hy).2.2.1.2 z hz).2.2.2.2.2.1.1, ((h.2 y hy).2.2.1.2 z hz).2.2.2.2.2.2.1⟩), (h.2 y hy).2.2.2.1, (fun z hz => ⟨((h.2 y hy).2.2.2.2 z hz).2.2.2.2.2.1.1, ((h.2 y hy).2.2.2.2 z hz).2.2.2.2.2.2.1⟩)⟩
theorem qLC {l : List qA} (hl : l.length <= 9223372036854775807) : ∀ (ys : List qA) (x left : Int), l.drop x.toNat = ys -> 0 <= x -> 0 <= left -> left <= 1099511627776 -> (∀ y ∈ ys, y.2.2.1.length <= 9223372036854775807 /\ (∀ z : qB, z ∈ y.2.2.1 -> z.2.2.2.2.2.1.length <= 9223372036854775807 /\ z.2.2.2.2.2.2.length <= 9223372036854775807) /\ y.2.2.2.length <= 9223372036854775807 /\ (∀ z : qB, z ∈ y.2.2.2 -> z.2.2.2.2.2.1.length <= 9223372036854775807 /\ z.2.2.2.2.2.2.length <= 9223372036854775807)) -> ∀ (Kx : Nat -> Int -> Prop),
  (Ev (fun n => Z44.l5 n l left x (Kx n) (Kx n)) ↔ Ev (fun n => Kx n (szr left (jV ys))))
 | [], x, left, h, h0, h1, h2, hy, Kx => by
  have := qJ h h0
  refine Ev.suc.trans ?_
  simp (disch := omega) only [Z44.l5, Z44.l5.b, if_neg, decide_eq_true_eq, Ev.s1 Kx, jV]
  refine jN ?_; unfold szr; split <;> omega
 | y :: ys, x, left, h, h0, h1, h2, hy, Kx => by
  obtain ⟨e1, e2, e3⟩ := qD h h0
  have hy0 := hy y List.mem_cons_self
  refine Ev.suc.trans ?_
  simp (disch := first | assumption | exact hy0.1 | exact hy0.2 | exact hy0.2.1 | exact hy0.2.2 | exact hy0.2.2.1 | exact hy0.2.2.2 | omega) only [Z44.l5, Z44.l5.b, if_pos, decide_eq_true_eq, Ev.s1 Kx, qF, e2, qOj, Ev.iteI, qG]
  split
  ·rename_i hs
   rw [jV, qEk hs]
  ·rename_i hs
   rw [qLC hl ys (x + 1) _ e3 (by omega) (by omega) (xL (by omega) h2) (fun y hy' => hy y (List.mem_cons_of_mem _ hy')), jV, qGg h1 hs, Ev.s1 Kx]
theorem qOh {l : List qA} {left : Int} (h0 : -1 <= left) (h1 : left <= 1099511627776) (hl : l.length <= 9223372036854775807) (hy : ∀ y ∈ l, y.2.2.1.length <= 9223372036854775807 /\ (∀ z : qB, z ∈ y.2.2.1 -> z.2.2.2.2.2.1.length <= 9223372036854775807 /\ z.2.2.2.2.2.2.length <= 9223372036854775807) /\ y.2.2.2.length <= 9223372036854775807 /\ (∀ z : qB, z ∈ y.2.2.2 -> z.2.2.2.2.2.1.length <= 9223372036854775807 /\ z.2.2.2.2.2.2.length <= 9223372036854775807)) (R : Nat -> Int -> Prop) :
  Ev (fun n => Z44.c n l left (R n)) ↔ Ev (fun n => R n (szr left (l.length + jV l))) := by
 refine Ev.suc.trans ?_
 simp (disch := omega) only [Z44.c, Z44.w, qG, Ev.iteI, decide_eq_true_eq, Ev.s1 R]
 split
 ·refine jN ?_; unfold szr; split <;> omega
 ·rw [qLC hl l 0 _ rfl (by omega) (by omega) (by omega) hy, Ev.s1 R]
  refine jN ?_; unfold szr; (repeat' split) <;> omega
theorem qN5 {a0 : List UInt8} {a1 : Int} (h : a0.length <= 1048576) (R : Nat -> List UInt8 -> Int -> Prop) :
  Ev (fun n => Z50.c n a0 a1 (R n)) ↔ Ev (fun n => R n a0 a1) := by
 refine Ev.suc.trans ?_
 simp (disch := omega) only [Z50.c, Z50.w, Ev.s2 R]
theorem qLA {l : List qP} (hl : l.length <= 1048576) : ∀ (ys : List qP) (x : Int) (o : List qP), l.drop x.toNat = ys -> 0 <= x -> o.length = l.length -> (∀ y ∈ ys, y.1.length <= 1048576) -> ∀ (Kx : Nat -> List qP -> Prop),
  (Ev (fun n => Z51.l3 n l x o (Kx n)) ↔ Ev (fun n => Kx n (o.take x.toNat ++ ys)))
 | [], x, o, h, h0, ho, hy, Kx => by
  have := qJ h h0
  refine Ev.suc.trans ?_
  simp (disch := omega) only [Z51.l3, Z51.l3.b, if_neg, decide_eq_true_eq, Ev.s1 Kx]
  rw [List.take_of_length_le (by omega), List.append_nil]
 | y :: ys, x, o, h, h0, ho, hy, Kx => by
  obtain ⟨e1, e2, e3⟩ := qD h h0
  have hy0 := hy y List.mem_cons_self
  refine Ev.suc.trans ?_
  simp (disch := omega) only [Z51.l3, Z51.l3.b, if_pos, decide_eq_true_eq, Ev.s1 Kx, qF, e2, qG, qN5]
  rw [qLA hl ys (x + 1) _ e3 (by omega) (by simpa using ho) (fun y hy' => hy y (List.mem_cons_of_mem _ hy')), Ev.s1 Kx, zR (by omega) (by omega), List.append_assoc]
  rfl
theorem qN3 {l : List qP} (h : (l.length + yC l) <= 1048576) (R : Nat -> List qP -> Prop) :
  Ev (fun n => Z51.c n l (R n)) ↔ Ev (fun n => R n l) := by
 refine Ev.suc.trans ?_
 simp (disch := omega) only [Z51.c, Z51.w, qF, decide_true, Bool.and_true]
 rw [qLA (by omega) l 0 _ rfl (by omega) (by simp) (fun y hy => by have := qDD hy; omega), Ev.s1 R]
 simp
theorem qLw {l : List Int} (hl : l.length <= 1048576) : ∀ (ys : List Int) (x : Int) (o : List Int), l.drop x.toNat = ys -> 0 <= x -> o.length = l.length -> ∀ (Kx : Nat -> List Int -> Prop),
  (Ev (fun n => Z58.l3 n l x o (Kx n)) ↔ Ev (fun n => Kx n (o.take x.toNat ++ ys)))
 | [], x, o, h, h0, ho, Kx => by
  have := qJ h h0
  refine Ev.suc.trans ?_
  simp (disch := omega) only [Z58.l3, Z58.l3.b, if_neg, decide_eq_true_eq, Ev.s1 Kx]
  rw [List.take_of_length_le (by omega), List.append_nil]
 | y :: ys, x, o, h, h0, ho, Kx => by
  obtain ⟨e1, e2, e3⟩ := qD h h0
  refine Ev.suc.trans ?_
  simp (disch := omega) only [Z58.l3, Z58.l3.b, if_pos, decide_eq_true_eq, Ev.s1 Kx, qF, e2, qG]
  rw [qLw hl ys (x + 1) _ e3 (by omega) (by simpa using ho), Ev.s1 Kx, zR (by omega) (by omega), List.append_assoc]
  rfl
theorem qNP {l : List Int} (h : l.length <= 1048576) (R : Nat -> List Int -> Prop) :
  Ev (fun n => Z58.c n l (R n)) ↔ Ev (fun n => R n l) := by
 refine Ev.suc.trans ?_
 simp (disch := omega) only [Z58.c, Z58.w, qF, decide_true, Bool.and_true]
 rw [qLw (by omega) l 0 _ rfl (by omega) (by simp), Ev.s1 R]
 simp
theorem qN7 {a0 : Int} {a1 : List Int} (h : a1.length <= 1048576) (R : Nat -> Int -> List Int -> Prop) :
  Ev (fun n => Z49.c n a0 a1 (R n)) ↔ Ev (fun n => R n a0 a1) := by
 refine Ev.suc.trans ?_
 simp (disch := omega) only [Z49.c, Z49.w, qNP, Ev.s2 R]
theorem qLz {l : List Int} (hl : l.length <= 1048576) : ∀ (ys : List Int) (x : Int) (o : List Int), l.drop x.toNat = ys -> 0 <= x -> o.length = l.length -> ∀ (Kx : Nat -> List Int -> Prop),
  (Ev (fun n => Z52.l3 n l x o (Kx n)) ↔ Ev (fun n => Kx n (o.take x.toNat ++ ys)))
 | [], x, o, h, h0, ho, Kx => by
  have := qJ h h0
  refine Ev.suc.trans ?_
  simp (disch := omega) only [Z52.l3, Z52.l3.b, if_neg, decide_eq_true_eq, Ev.s1 Kx]
  rw [List.take_of_length_le (by omega), List.append_nil]
 | y :: ys, x, o, h, h0, ho, Kx => by
  obtain ⟨e1, e2, e3⟩ := qD h h0
  refine Ev.suc.trans ?_
  simp (disch := omega) only [Z52.l3, Z52.l3.b, if_pos, decide_eq_true_eq, Ev.s1 Kx, qF, e2, qG]
  rw [qLz hl ys (x + 1) _ e3 (by omega) (by simpa using ho), Ev.s1 Kx, zR (by omega) (by omega), List.append_assoc]
  rfl
theorem qN1 {l : List Int} (h : l.length <= 1048576) (R : Nat -> List Int -> Prop) :
  Ev (fun n => Z52.c n l (R n)) ↔ Ev (fun n => R n l) := by
 refine Ev.suc.trans ?_
 simp (disch := omega) only [Z52.c, Z52.w, qF, decide_true, Bool.and_true]
 rw [qLz (by omega) l 0 _ rfl (by omega) (by simp), Ev.s1 R]
 simp
theorem qNV {a0 : Int} {a1 : Int} {a2 : Int} {a3 : Int} {a4 : Int} {a5 : List Int} {a6 : List Int} (h : a5.length + a6.length <= 1048576) (R : Nat -> Int -> Int -> Int -> Int -> Int -> List Int -> List Int -> Prop) :
  Ev (fun n => Z55.c n a0 a1 a2 a3 a4 a5 a6 (R n)) ↔ Ev (fun n => R n a0 a1 a2 a3 a4 a5 a6) := by
 refine Ev.suc.trans ?_
 simp (disch := omega) only [Z55.c, Z55.w, qN7, qN1, Ev.s7 R]
theorem qLx {l : List qB} (hl : l.length <= 1048576) : ∀ (ys : List qB) (x : Int) (o : List qB), l.drop x.toNat = ys -> 0 <= x -> o.length = l.length -> (∀ y ∈ ys, y.2.2.2.2.2.1.length + y.2.2.2.2.2.2.length <= 1048576) -> ∀ (Kx : Nat -> List qB -> Prop),
  (Ev (fun n => Z56.l3 n l x o (Kx n)) ↔ Ev (fun n => Kx n (o.take x.toNat ++ ys)))
 | [], x, o, h, h0, ho, hy, Kx => by
  have := qJ h h0
  refine Ev.suc.trans ?_
  simp (disch := omega) only [Z56.l3, Z56.l3.b, if_neg, decide_eq_true_eq, Ev.s1 Kx]
  rw [List.take_of_length_le (by omega), List.append_nil]
 | y :: ys, x, o, h, h0, ho, hy, Kx => by
  obtain ⟨e1, e2, e3⟩ := qD h h0
  have hy0 := hy y List.mem_cons_self
  refine Ev.suc.trans ?_
  simp (disch := omega) only [Z56.l3, Z56.l3.b, if_pos, decide_eq_true_eq, Ev.s1 Kx, qF, e2, qG, qNV]
  rw [qLx hl ys (x + 1) _ e3 (by omega) (by simpa using ho) (fun y hy' => hy y (List.mem_cons_of_mem _ hy')), Ev.s1 Kx, zR (by omega) (by omega), List.append_assoc]
  rfl
theorem qNT {l : List qB} (h : (l.length + jR l) <= 1048576) (R : Nat -> List qB -> Prop) :
  Ev (fun n => Z56.c n l (R n)) ↔ Ev (fun n => R n l) := by
 refine Ev.suc.trans ?_
 simp (disch := omega) only [Z56.c, Z56.w, qF, decide_true, Bool.and_true]
 rw [qLx (by omega) l 0 _ rfl (by omega) (by simp) (fun y hy => by have := vK hy; omega), Ev.s1 R]
 simp
theorem qNR {a0 : List (Int × Int × Int × Int × Int × List (Int) × List (Int))} (h : (a0.length + jR a0) <= 1048576) (R : Nat -> List (Int × Int × Int × Int × Int × List (Int) × List (Int)) -> Prop) :
  Ev (fun n => Z57.c n a0 (R n)) ↔ Ev (fun n => R n a0) := by
 refine Ev.suc.trans ?_
 simp (disch := omega) only [Z57.c, Z57.w, qNT, Ev.s1 R]
theorem qNZ {a0 : Int} {a1 : Bool} {a2 : List (Int × Int × Int × Int × Int × List (Int) × List (Int))} {a3 : List (Int × Int × Int × Int × Int × List (Int) × List (Int))} (h : ((a2.length + jR a2)) + ((a3.length + jR a3)) <= 1048576) (R : Nat -> Int -> Bool -> List (Int × Int × Int × Int × Int × List (Int) × List (Int)) -> List (Int × Int × Int × Int × Int × List (Int) × List (Int)) -> Prop) :
  Ev (fun n => Z53.c n a0 a1 a2 a3 (R n)) ↔ Ev (fun n => R n a0 a1 a2 a3) := by
 refine Ev.suc.trans ?_
 simp (disch := omega) only [Z53.c, Z53.w, qNR, Ev.s4 R]
theorem qLy {l : List qA} (hl : l.length <= 1048576) : ∀ (ys : List qA) (x : Int) (o : List qA), l.drop x.toNat = ys -> 0 <= x -> o.length = l.length -> (∀ y ∈ ys, ((y.2.2.1.length + jR y.2.2.1)) + ((y.2.2.2.length + jR y.2.2.2)) <= 1048576) -> ∀ (Kx : Nat -> List qA -> Prop),
  (Ev (fun n => Z54.l3 n l x o (Kx n)) ↔ Ev (fun n => Kx n (o.take x.toNat ++ ys)))
 | [], x, o, h, h0, ho, hy, Kx => by
  have := qJ h h0
  refine Ev.suc.trans ?_
  simp (disch := omega) only [Z54.l3, Z54.l3.b, if_neg, decide_eq_true_eq, Ev.s1 Kx]
  rw [List.take_of_length_le (by omega), List.append_nil]
 | y :: ys, x, o, h, h0, ho, hy, Kx => by
  obtain ⟨e1, e2, e3⟩ := qD h h0
  have hy0 := hy y List.mem_cons_self
  refine Ev.suc.trans ?_
  simp (disch := omega) only [Z54.l3, Z54.l3.b, if_pos, decide_eq_true_eq, Ev.s1 Kx, qF, e2, qG, qNZ]
  rw [qLy hl ys (x + 1) _ e3 (by omega) (by simpa using ho) (fun y hy' => hy y (List.mem_cons_of_mem _ hy')), Ev.s1 Kx, zR (by omega) (by omega), List.append_assoc]
  rfl
theorem qNX {l : List qA} (h : (l.length + jV l) <= 1048576) (R : Nat -> List qA -> Prop) :
  Ev (fun n => Z54.c n l (R n)) ↔ Ev (fun n => R n l) := by
 refine Ev.suc.trans ?_
 simp (disch := omega) only [Z54.c, Z54.w, qF, decide_true, Bool.and_true]
 rw [qLy (by omega) l 0 _ rfl (by omega) (by simp) (fun y hy => by have := vU hy; omega), Ev.s1 R]
 simp
theorem qLS {l l' : List Int} (hl : l.length <= 1099511627776) (hll : l.length = l'.length) : ∀ (ys ys' : List Int) (x : Int), l.drop x.toNat = ys -> l'.drop x.toNat = ys' -> 0 <= x -> ∀ (Kx : Nat -> Prop) (Kr : Nat -> Bool -> Prop),
  (Ev (fun n => Z21.l4 n l l' x (Kx n) (Kr n)) ↔ if ys = ys' then Ev Kx else Ev (fun n => Kr n false))
 | [], [], x, h, h', h0, Kx, Kr => by
  have := qJ h h0
  refine Ev.suc.trans ?_
  simp (disch := omega) only [Z21.l4, Z21.l4.b, if_neg, decide_eq_true_eq, Ev.s0 Kx, if_true]
 | [], y' :: ys', x, h, h', h0, Kx, Kr => by
  have := qJ h h0; have := (qD h' h0).1; omega
 | y :: ys, [], x, h, h', h0, Kx, Kr => by
  have := qJ h' h0; have := (qD h h0).1; omega
 | y :: ys, y' :: ys', x, h, h', h0, Kx, Kr => by
  obtain ⟨e1, e2, e3⟩ := qD h h0
  obtain ⟨_, f2, f3⟩ := qD h' h0
  refine Ev.suc.trans ?_
  simp (disch := first | assumption | exact hy0.1 | exact hy0.2 | exact hy0.2.1 | exact hy0.2.2 | exact hy0.2.2.1 | exact hy0.2.2.2 | omega) only [Z21.l4, Z21.l4.b, if_pos, decide_eq_true_eq, Ev.s0 Kx, Ev.s1 Kr, qF, e2, f2, qG, Ev.iteI, Bool.not_eq_true', decide_eq_false_iff_not]
  rw [qLS hl hll ys ys' (x + 1) e3 f3 (by omega), Ev.s0 Kx, Ev.s1 Kr]
  simp only [List.cons.injEq, Prod.ext_iff]
  (repeat' split) <;> first | rfl | (exfalso; simp_all; done)
theorem qLT {l l' : List Int} (hl : l.length <= 1099511627776) (R : Nat -> Bool -> Prop) :
  Ev (fun n => Z21.c n l l' (R n)) ↔ Ev (fun n => R n (decide (l = l'))) := by
 refine Ev.suc.trans ?_
 simp (disch := omega) only [Z21.c, Z21.w, Ev.iteI, Bool.not_eq_true', decide_eq_false_iff_not, Ev.s1 R]
 split
 ·rw [decide_eq_false]; intro e; subst e; omega
 ·rw [qLS hl (by omega) l l' 0 rfl rfl (by omega), Ev.s1 R, Ev.s1 R]
  split
  ·rw [decide_eq_true ‹_›]
  ·rw [decide_eq_false ‹_›]
theorem qLR {l l' : List (List Int)} (hl : l.length <= 1099511627776) (hll : l.length = l'.length) : ∀ (ys ys' : List (List Int)) (x : Int), l.drop x.toNat = ys -> l'.drop x.toNat = ys' -> 0 <= x -> (∀ y ∈ ys, y.length <= 1099511627776) -> ∀ (Kx : Nat -> Prop) (Kr : Nat -> Bool -> Prop),
  (Ev (fun n => Z22.l4 n l l' x (Kx n) (Kr n)) ↔ if ys = ys' then Ev Kx else Ev (fun n => Kr n false))
 | [], [], x, h, h', h0, hy, Kx, Kr => by
  have := qJ h h0
  refine Ev.suc.trans ?_
  simp (disch := omega) only [Z22.l4, Z22.l4.b, if_neg, decide_eq_true_eq, Ev.s0 Kx, if_true]
 | [], y' :: ys', x, h, h', h0, hy, Kx, Kr => by
  have := qJ h h0; have := (qD h' h0).1; omega
 | y :: ys, [], x, h, h', h0, hy, Kx, Kr => by
  have := qJ h' h0; have := (qD h h0).1; omega
 | y :: ys, y' :: ys', x, h, h', h0, hy, Kx, Kr => by
  obtain ⟨e1, e2, e3⟩ := qD h h0
  obtain ⟨_, f2, f3⟩ := qD h' h0
  have hy0 := hy y List.mem_cons_self
  refine Ev.suc.trans ?_
  simp (disch := first | assumption | exact hy0.1 | exact hy0.2 | exact hy0.2.1 | exact hy0.2.2 | exact hy0.2.2.1 | exact hy0.2.2.2 | omega) only [Z22.l4, Z22.l4.b, if_pos, decide_eq_true_eq, Ev.s0 Kx, Ev.s1 Kr, qF, e2, f2, qG, qLT, Ev.iteI, Bool.not_eq_true', decide_eq_false_iff_not]
  rw [qLR hl hll ys ys' (x + 1) e3 f3 (by omega) (fun y hy' => hy y (List.mem_cons_of_mem _ hy')), Ev.s0 Kx, Ev.s1 Kr]
  simp only [List.cons.injEq, Prod.ext_iff]
  (repeat' split) <;> first | rfl | (exfalso; simp_all; done)
theorem qOX {l l' : List (List Int)} (hl : l.length <= 1099511627776) (hy : ∀ y ∈ l, y.length <= 1099511627776) (R : Nat -> Bool -> Prop) :
  Ev (fun n => Z22.c n l l' (R n)) ↔ Ev (fun n => R n (decide (l = l'))) := by
 refine Ev.suc.trans ?_
 simp (disch := omega) only [Z22.c, Z22.w, Ev.iteI, Bool.not_eq_true', decide_eq_false_iff_not, Ev.s1 R]
 split
 ·rw [decide_eq_false]; intro e; subst e; omega
 ·rw [qLR hl (by omega) l l' 0 rfl rfl (by omega) hy, Ev.s1 R, Ev.s1 R]
  split
  ·rw [decide_eq_true ‹_›]
  ·rw [decide_eq_false ‹_›]
def yS : List (List Int) -> Nat
 | [] => 0
 | y :: r => y.length + yS r
theorem qO2 {a0 b0 : List UInt8} {a1 b1 : Int} (R : Nat -> Bool -> Prop) :
  Ev (fun n => Z19.c n a0 a1 b0 b1 (R n)) ↔ Ev (fun n => R n (decide (a0 = b0 /\ a1 = b1))) := by
 refine Ev.suc.trans ?_
 simp (disch := first | assumption | omega) only [Z19.c, Z19.w, Ev.iteI, Bool.not_eq_true', decide_eq_false_iff_not, beq_eq_false_iff_ne, ne_eq, Ev.s1 R]
 (repeat' split) <;> first | (rw [decide_eq_false]; simp_all; done) | (rw [decide_eq_true]; simp_all; done)
theorem qLU {l l' : List qP} (hl : l.length <= 1099511627776) (hll : l.length = l'.length) : ∀ (ys ys' : List qP) (x : Int), l.drop x.toNat = ys -> l'.drop x.toNat = ys' -> 0 <= x -> ∀ (Kx : Nat -> Prop) (Kr : Nat -> Bool -> Prop),
  (Ev (fun n => Z20.l4 n l l' x (Kx n) (Kr n)) ↔ if ys = ys' then Ev Kx else Ev (fun n => Kr n false))
 | [], [], x, h, h', h0, Kx, Kr => by
  have := qJ h h0
  refine Ev.suc.trans ?_
  simp (disch := omega) only [Z20.l4, Z20.l4.b, if_neg, decide_eq_true_eq, Ev.s0 Kx, if_true]
 | [], y' :: ys', x, h, h', h0, Kx, Kr => by
  have := qJ h h0; have := (qD h' h0).1; omega
 | y :: ys, [], x, h, h', h0, Kx, Kr => by
  have := qJ h' h0; have := (qD h h0).1; omega
 | y :: ys, y' :: ys', x, h, h', h0, Kx, Kr => by
  obtain ⟨e1, e2, e3⟩ := qD h h0
  obtain ⟨_, f2, f3⟩ := qD h' h0
  refine Ev.suc.trans ?_
  simp (disch := first | assumption | exact hy0.1 | exact hy0.2 | exact hy0.2.1 | exact hy0.2.2 | exact hy0.2.2.1 | exact hy0.2.2.2 | omega) only [Z20.l4, Z20.l4.b, if_pos, decide_eq_true_eq, Ev.s0 Kx, Ev.s1 Kr, qF, e2, f2, qG, qO2, Ev.iteI, Bool.not_eq_true', decide_eq_false_iff_not]
  rw [qLU hl hll ys ys' (x + 1) e3 f3 (by omega), Ev.s0 Kx, Ev.s1 Kr]
  simp only [List.cons.injEq, Prod.ext_iff]
  (repeat' split) <;> first | rfl | (exfalso; simp_all; done)
theorem qO0 {l l' : List qP} (hl : l.length <= 1099511627776) (R : Nat -> Bool -> Prop) :
  Ev (fun n => Z20.c n l l' (R n)) ↔ Ev (fun n => R n (decide (l = l'))) := by
 refine Ev.suc.trans ?_
 simp (disch := omega) only [Z20.c, Z20.w, Ev.iteI, Bool.not_eq_true', decide_eq_false_iff_not, Ev.s1 R]
 split
 ·rw [decide_eq_false]; intro e; subst e; omega
 ·rw [qLU hl (by omega) l l' 0 rfl rfl (by omega), Ev.s1 R, Ev.s1 R]
  split
  ·rw [decide_eq_true ‹_›]
  ·rw [decide_eq_false ‹_›]
theorem qLO {l l' : List Int} (hl : l.length <= 1099511627776) (hll : l.length = l'.length) : ∀ (ys ys' : List Int) (x : Int), l.drop x.toNat = ys -> l'.drop x.toNat = ys' -> 0 <= x -> ∀ (Kx : Nat -> Prop) (Kr : Nat -> Bool -> Prop),
  (Ev (fun n => Z28.l4 n l l' x (Kx n) (Kr n)) ↔ if ys = ys' then Ev Kx else Ev (fun n => Kr n false))
 | [], [], x, h, h', h0, Kx, Kr => by
  have := qJ h h0
  refine Ev.suc.trans ?_
  simp (disch := omega) only [Z28.l4, Z28.l4.b, if_neg, decide_eq_true_eq, Ev.s0 Kx, if_true]
 | [], y' :: ys', x, h, h', h0, Kx, Kr => by
  have := qJ h h0; have := (qD h' h0).1; omega
 | y :: ys, [], x, h, h', h0, Kx, Kr => by
  have := qJ h' h0; have := (qD h h0).1; omega
 | y :: ys, y' :: ys', x, h, h', h0, Kx, Kr => by
  obtain ⟨e1, e2, e3⟩ := qD h h0
  obtain ⟨_, f2, f3⟩ := qD h' h0
  refine Ev.suc.trans ?_
  simp (disch := first | assumption | exact hy0.1 | exact hy0.2 | exact hy0.2.1 | exact hy0.2.2 | exact hy0.2.2.1 | exact hy0.2.2.2 | omega) only [Z28.l4, Z28.l4.b, if_pos, decide_eq_true_eq, Ev.s0 Kx, Ev.s1 Kr, qF, e2, f2, qG, Ev.iteI, Bool.not_eq_true', decide_eq_false_iff_not]
  rw [qLO hl hll ys ys' (x + 1) e3 f3 (by omega), Ev.s0 Kx, Ev.s1 Kr]
  simp only [List.cons.injEq, Prod.ext_iff]
  (repeat' split) <;> first | rfl | (exfalso; simp_all; done)
theorem qOL {l l' : List Int} (hl : l.length <= 1099511627776) (R : Nat -> Bool -> Prop) :
  Ev (fun n => Z28.c n l l' (R n)) ↔ Ev (fun n => R n (decide (l = l'))) := by
 refine Ev.suc.trans ?_
 simp (disch := omega) only [Z28.c, Z28.w, Ev.iteI, Bool.not_eq_true', decide_eq_false_iff_not, Ev.s1 R]
 split
 ·rw [decide_eq_false]; intro e; subst e; omega
 ·rw [qLO hl (by omega) l l' 0 rfl rfl (by omega), Ev.s1 R, Ev.s1 R]
  split
  ·rw [decide_eq_true ‹_›]
  ·rw [decide_eq_false ‹_›]
theorem qO4 {a0 b0 : Int} {a1 b1 : List Int} (h0 : a1.length <= 1099511627776) (R : Nat -> Bool -> Prop) :
  Ev (fun n => Z18.c n a0 a1 b0 b1 (R n)) ↔ Ev (fun n => R n (decide (a0 = b0 /\ a1 = b1))) := by
 refine Ev.suc.trans ?_
 simp (disch := first | assumption | omega) only [Z18.c, Z18.w, qOL, Ev.iteI, Bool.not_eq_true', decide_eq_false_iff_not, beq_eq_false_iff_ne, ne_eq, Ev.s1 R]
 (repeat' split) <;> first | (rw [decide_eq_false]; simp_all; done) | (rw [decide_eq_true]; simp_all; done)
theorem qOR {a0 b0 : Int} {a1 b1 : Int} {a2 b2 : Int} {a3 b3 : Int} {a4 b4 : Int} {a5 b5 : List Int} {a6 b6 : List Int} (h0 : a5.length <= 1099511627776) (h1 : a6.length <= 1099511627776) (R : Nat -> Bool -> Prop) :
  Ev (fun n => Z25.c n a0 a1 a2 a3 a4 a5 a6 b0 b1 b2 b3 b4 b5 b6 (R n)) ↔ Ev (fun n => R n (decide (a0 = b0 /\ a1 = b1 /\ a2 = b2 /\ a3 = b3 /\ a4 = b4 /\ a5 = b5 /\ a6 = b6))) := by
 refine Ev.suc.trans ?_
 simp (disch := first | assumption | omega) only [Z25.c, Z25.w, qO4, qLT, Ev.iteI, Bool.not_eq_true', decide_eq_false_iff_not, beq_eq_false_iff_ne, ne_eq, Ev.s1 R]
 (repeat' split) <;> first | (rw [decide_eq_false]; simp_all; done) | (rw [decide_eq_true]; simp_all; done)
theorem qLP {l l' : List qB} (hl : l.length <= 1099511627776) (hll : l.length = l'.length) : ∀ (ys ys' : List qB) (x : Int), l.drop x.toNat = ys -> l'.drop x.toNat = ys' -> 0 <= x -> (∀ y ∈ ys, y.2.2.2.2.2.1.length <= 1099511627776 /\ y.2.2.2.2.2.2.length <= 1099511627776) -> ∀ (Kx : Nat -> Prop) (Kr : Nat -> Bool -> Prop),
  (Ev (fun n => Z26.l4 n l l' x (Kx n) (Kr n)) ↔ if ys = ys' then Ev Kx else Ev (fun n => Kr n false))
 | [], [], x, h, h', h0, hy, Kx, Kr => by
  have := qJ h h0
  refine Ev.suc.trans ?_
  simp (disch := omega) only [Z26.l4, Z26.l4.b, if_neg, decide_eq_true_eq, Ev.s0 Kx, if_true]
 | [], y' :: ys', x, h, h', h0, hy, Kx, Kr => by
  have := qJ h h0; have := (qD h' h0).1; omega
 | y :: ys, [], x, h, h', h0, hy, Kx, Kr => by
  have := qJ h' h0; have := (qD h h0).1; omega
 | y :: ys, y' :: ys', x, h, h', h0, hy, Kx, Kr => by
  obtain ⟨e1, e2, e3⟩ := qD h h0
  obtain ⟨_, f2, f3⟩ := qD h' h0
  have hy0 := hy y List.mem_cons_self
  refine Ev.suc.trans ?_
  simp (disch := first | assumption | exact hy0.1 | exact hy0.2 | exact hy0.2.1 | exact hy0.2.2 | exact hy0.2.2.1 | exact hy0.2.2.2 | omega) only [Z26.l4, Z26.l4.b, if_pos, decide_eq_true_eq, Ev.s0 Kx, Ev.s1 Kr, qF, e2, f2, qG, qOR, Ev.iteI, Bool.not_eq_true', decide_eq_false_iff_not]
  rw [qLP hl hll ys ys' (x + 1) e3 f3 (by omega) (fun y hy' => hy y (List.mem_cons_of_mem _ hy')), Ev.s0 Kx, Ev.s1 Kr]
  simp only [List.cons.injEq, Prod.ext_iff]
  (repeat' split) <;> first | rfl | (exfalso; simp_all; done)
theorem qOP {l l' : List qB} (hl : l.length <= 1099511627776) (hy : ∀ y ∈ l, y.2.2.2.2.2.1.length <= 1099511627776 /\ y.2.2.2.2.2.2.length <= 1099511627776) (R : Nat -> Bool -> Prop) :
  Ev (fun n => Z26.c n l l' (R n)) ↔ Ev (fun n => R n (decide (l = l'))) := by
 refine Ev.suc.trans ?_
 simp (disch := omega) only [Z26.c, Z26.w, Ev.iteI, Bool.not_eq_true', decide_eq_false_iff_not, Ev.s1 R]
 split
 ·rw [decide_eq_false]; intro e; subst e; omega
 ·rw [qLP hl (by omega) l l' 0 rfl rfl (by omega) hy, Ev.s1 R, Ev.s1 R]
  split
  ·rw [decide_eq_true ‹_›]
  ·rw [decide_eq_false ‹_›]
theorem qON {a0 b0 : List (Int × Int × Int × Int × Int × List (Int) × List (Int))} (h0 : a0.length <= 1099511627776) (h1 : (∀ y : qB, y ∈ a0 -> y.2.2.2.2.2.1.length <= 1099511627776 /\ y.2.2.2.2.2.2.length <= 1099511627776)) (R : Nat -> Bool -> Prop) :
  Ev (fun n => Z27.c n a0 b0 (R n)) ↔ Ev (fun n => R n (decide (a0 = b0))) := by
 refine Ev.suc.trans ?_
 simp (disch := first | assumption | omega) only [Z27.c, Z27.w, qOP, Ev.iteI, Bool.not_eq_true', decide_eq_false_iff_not, beq_eq_false_iff_ne, ne_eq, Ev.s1 R]
 (repeat' split) <;> first | (rw [decide_eq_false]; simp_all; done) | (rw [decide_eq_true]; simp_all; done)
theorem qOV {a0 b0 : Int} {a1 b1 : Bool} {a2 b2 : List (Int × Int × Int × Int × Int × List (Int) × List (Int))} {a3 b3 : List (Int × Int × Int × Int × Int × List (Int) × List (Int))} (h0 : a2.length <= 1099511627776) (h1 : (∀ y : qB, y ∈ a2 -> y.2.2.2.2.2.1.length <= 1099511627776 /\ y.2.2.2.2.2.2.length <= 1099511627776)) (h2 : a3.length <= 1099511627776) (h3 : (∀ y : qB, y ∈ a3 -> y.2.2.2.2.2.1.length <= 1099511627776 /\ y.2.2.2.2.2.2.length <= 1099511627776)) (R : Nat -> Bool -> Prop) :
  Ev (fun n => Z23.c n a0 a1 a2 a3 b0 b1 b2 b3 (R n)) ↔ Ev (fun n => R n (decide (a0 = b0 /\ a1 = b1 /\ a2 = b2 /\ a3 = b3))) := by
 refine Ev.suc.trans ?_
 simp (disch := first | assumption | omega) only [Z23.c, Z23.w, qON, Ev.iteI, Bool.not_eq_true', decide_eq_false_iff_not, beq_eq_false_iff_ne, ne_eq, Ev.s1 R]
 (repeat' split) <;> first | (rw [decide_eq_false]; simp_all; done) | (rw [decide_eq_true]; simp_all; done)
theorem qLQ {l l' : List qA} (hl : l.length <= 1099511627776) (hll : l.length = l'.length) : ∀ (ys ys' : List qA) (x : Int), l.drop x.toNat = ys -> l'.drop x.toNat = ys' -> 0 <= x -> (∀ y ∈ ys, y.2.2.1.length <= 1099511627776 /\ (∀ z : qB, z ∈ y.2.2.1 -> z.2.2.2.2.2.1.length <= 1099511627776 /\ z.2.2.2.2.2.2.length <= 1099511627776) /\ y.2.2.2.length <= 1099511627776 /\ (∀ z : qB, z ∈ y.2.2.2 -> z.2.2.2.2.2.1.length <= 1099511627776 /\ z.2.2.2.2.2.2.length <= 1099511627776)) -> ∀ (Kx : Nat -> Prop) (Kr : Nat -> Bool -> Prop),
  (Ev (fun n => Z24.l4 n l l' x (Kx n) (Kr n)) ↔ if ys = ys' then Ev Kx else Ev (fun n => Kr n false))
 | [], [], x, h, h', h0, hy, Kx, Kr => by
  have := qJ h h0
  refine Ev.suc.trans ?_
  simp (disch := omega) only [Z24.l4, Z24.l4.b, if_neg, decide_eq_true_eq, Ev.s0 Kx, if_true]
 | [], y' :: ys', x, h, h', h0, hy, Kx, Kr => by
  have := qJ h h0; have := (qD h' h0).1; omega
 | y :: ys, [], x, h, h', h0, hy, Kx, Kr => by
  have := qJ h' h0; have := (qD h h0).1; omega
 | y :: ys, y' :: ys', x, h, h', h0, hy, Kx, Kr => by
  obtain ⟨e1, e2, e3⟩ := qD h h0
  obtain ⟨_, f2, f3⟩ := qD h' h0
  have hy0 := hy y List.mem_cons_self
  refine Ev.suc.trans ?_
  simp (disch := first | assumption | exact hy0.1 | exact hy0.2 | exact hy0.2.1 | exact hy0.2.2 | exact hy0.2.2.1 | exact hy0.2.2.2 | omega) only [Z24.l4, Z24.l4.b, if_pos, decide_eq_true_eq, Ev.s0 Kx, Ev.s1 Kr, qF, e2, f2, qG, qOV, Ev.iteI, Bool.not_eq_true', decide_eq_false_iff_not]
  rw [qLQ hl hll ys ys' (x + 1) e3 f3 (by omega) (fun y hy' => hy y (List.mem_cons_of_mem _ hy')), Ev.s0 Kx, Ev.s1 Kr]
  simp only [List.cons.injEq, Prod.ext_iff]
  (repeat' split) <;> first | rfl | (exfalso; simp_all; done)
theorem qOT {l l' : List qA} (hl : l.length <= 1099511627776) (hy : ∀ y ∈ l, y.2.2.1.length <= 1099511627776 /\ (∀ z : qB, z ∈ y.2.2.1 -> z.2.2.2.2.2.1.length <= 1099511627776 /\ z.2.2.2.2.2.2.length <= 1099511627776) /\ y.2.2.2.length <= 1099511627776 /\ (∀ z : qB, z ∈ y.2.2.2 -> z.2.2.2.2.2.1.length <= 1099511627776 /\ z.2.2.2.2.2.2.length <= 1099511627776)) (R : Nat -> Bool -> Prop) :
  Ev (fun n => Z24.c n l l' (R n)) ↔ Ev (fun n => R n (decide (l = l'))) := by
 refine Ev.suc.trans ?_
 simp (disch := omega) only [Z24.c, Z24.w, Ev.iteI, Bool.not_eq_true', decide_eq_false_iff_not, Ev.s1 R]
 split
 ·rw [decide_eq_false]; intro e; subst e; omega
 ·rw [qLQ hl (by omega) l l' 0 rfl rfl (by omega) hy, Ev.s1 R, Ev.s1 R]
  split
  ·rw [decide_eq_true ‹_›]
  ·rw [decide_eq_false ‹_›]
theorem qEI {l : List qA} (h : (l.length + jV l) <= 1099511627776) : ∀ y : qA, y ∈ l -> y.2.2.1.length <= 1099511627776 /\ (∀ z : qB, z ∈ y.2.2.1 -> z.2.2.2.2.2.1.length <= 1099511627776 /\ z.2.2.2.2.2.2.length <= 1099511627776) /\ y.2.2.2.length <= 1099511627776 /\ (∀ z : qB, z ∈ y.2.2.2 -> z.2.2.2.2.2.1.length <= 1099511627776 /\ z.2.2.2.2.2.2.length <= 1099511627776) := by
 intro y hy
 have := vU hy
 exact ⟨(by omega), (fun z hz => by have := vK hz; exact ⟨(by omega), (by omega)⟩), (by omega), (fun z hz => by have := vK hz; exact ⟨(by omega), (by omega)⟩)⟩
def qFy : List qP -> Int -> List qP
 | [], _ => []
 | y :: r, k => (qMi k, k + 1) :: qFy r (k + 1 + 1)
def xH : List qP -> Nat
 | [] => 0
 | y :: r => (2) + xH r
theorem qLL : ∀ (ys l : List qP) (k x : Int), l.drop x.toNat = ys -> 0 <= x -> l.length <= 1099511627776 -> 0 < k -> k + (xH ys : Int) <= 4611686018427387904 -> ∀ (Kx : Nat -> Int -> List qP -> Prop),
  (Ev (fun n => Z31.l2 n k x l (Kx n)) ↔ Ev (fun n => Kx n (k + (xH ys : Int)) (l.take x.toNat ++ qFy ys k)))
 | [], l, k, x, h, h0, hl, hk, hb, Kx => by
  have := qJ h h0
  refine Ev.suc.trans ?_
  simp (disch := omega) only [Z31.l2, Z31.l2.b, if_neg, decide_eq_true_eq, Ev.s2 Kx]
  rw [List.take_of_length_le (by omega), qFy, List.append_nil]
  refine qAN ?_; simp [xH]
 | y :: ys, l, k, x, h, h0, hl, hk, hb, Kx => by
  obtain ⟨e1, e2, e3⟩ := qD h h0
  simp only [List.length_cons, xH] at hb
  refine Ev.suc.trans ?_
  simp (disch := first | assumption | exact hy0.1 | exact hy0.2 | exact hy0.2.1 | exact hy0.2.2 | exact hy0.2.2.1 | exact hy0.2.2.2 | omega) only [Z31.l2, Z31.l2.b, if_pos, decide_eq_true_eq, Ev.s2 Kx, qF, qG, qCw, qBW, List.length_set, List.set_set, e2, qGt]
  rw [qLL ys _ _ (x + 1) (yX e3 (by omega)) (by omega) (by simpa using hl) (by omega) (by omega), Ev.s2 Kx, zR (by omega) (by omega), List.append_assoc, qFy]
  simp only [List.length_cons, xH, List.singleton_append]
  exact qAM (by omega) (by congr 2 <;> first | rfl | omega | (congr 1; omega) | skip)
theorem qOF {l : List qP} {k : Int} (hl : l.length <= 1099511627776) (hk : 0 < k) (hb : k + (xH l : Int) <= 4611686018427387904) (R : Nat -> Int -> List qP -> Prop) :
  Ev (fun n => Z31.c n l k (R n)) ↔ Ev (fun n => R n (k + (xH l : Int)) (qFy l k)) := by
 refine Ev.suc.trans ?_
 simp only [Z31.c, Z31.w]
 rw [qLL l l k 0 rfl (by omega) hl hk hb, Ev.s2 R]
 rfl
theorem qFZ : ∀ {l : List qP}, xH l <= 8 * (l.length + yC l)
 | [] => by simp [xH]
 | y :: r => by
  have := qFZ (l := r)
  simp only [xH, yC, List.length_cons]; omega
def qAh : List Int -> Int -> List Int
 | [], _ => []
 | y :: r, k => (k) :: qAh r (k + 1)
theorem qLE : ∀ (ys l : List Int) (k x : Int), l.drop x.toNat = ys -> 0 <= x -> l.length <= 1099511627776 -> 0 < k -> k + (ys.length : Int) <= 4611686018427387904 -> ∀ (Kx : Nat -> Int -> List Int -> Prop),
  (Ev (fun n => Z38.l2 n k x l (Kx n)) ↔ Ev (fun n => Kx n (k + (ys.length : Int)) (l.take x.toNat ++ qAh ys k)))
 | [], l, k, x, h, h0, hl, hk, hb, Kx => by
  have := qJ h h0
  refine Ev.suc.trans ?_
  simp (disch := omega) only [Z38.l2, Z38.l2.b, if_neg, decide_eq_true_eq, Ev.s2 Kx]
  rw [List.take_of_length_le (by omega), qAh, List.append_nil]
  refine qAN ?_; simp
 | y :: ys, l, k, x, h, h0, hl, hk, hb, Kx => by
  obtain ⟨e1, e2, e3⟩ := qD h h0
  simp only [List.length_cons] at hb
  refine Ev.suc.trans ?_
  simp (disch := first | assumption | exact hy0.1 | exact hy0.2 | exact hy0.2.1 | exact hy0.2.2 | exact hy0.2.2.1 | exact hy0.2.2.2 | omega) only [Z38.l2, Z38.l2.b, if_pos, decide_eq_true_eq, Ev.s2 Kx, qF, qG, qCw, qBW, List.length_set, List.set_set, e2]
  rw [qLE ys _ _ (x + 1) (yX e3 (by omega)) (by omega) (by simpa using hl) (by omega) (by omega), Ev.s2 Kx, zR (by omega) (by omega), List.append_assoc, qAh]
  simp only [List.length_cons, List.singleton_append]
  exact qAM (by omega) (by congr 2 <;> first | rfl | omega | (congr 1; omega) | skip)
theorem qOt {l : List Int} {k : Int} (hl : l.length <= 1099511627776) (hk : 0 < k) (hb : k + (l.length : Int) <= 4611686018427387904) (R : Nat -> Int -> List Int -> Prop) :
  Ev (fun n => Z38.c n l k (R n)) ↔ Ev (fun n => R n (k + (l.length : Int)) (qAh l k)) := by
 refine Ev.suc.trans ?_
 simp only [Z38.c, Z38.w]
 rw [qLE l l k 0 rfl (by omega) hl hk hb, Ev.s2 R]
 rfl
def vM : List Int -> Int -> List Int
 | [], _ => []
 | y :: r, k => (k) :: vM r (k + 1)
theorem qLJ : ∀ (ys l : List Int) (k x : Int), l.drop x.toNat = ys -> 0 <= x -> l.length <= 1099511627776 -> 0 < k -> k + (ys.length : Int) <= 4611686018427387904 -> ∀ (Kx : Nat -> Int -> List Int -> Prop),
  (Ev (fun n => Z32.l2 n k x l (Kx n)) ↔ Ev (fun n => Kx n (k + (ys.length : Int)) (l.take x.toNat ++ vM ys k)))
 | [], l, k, x, h, h0, hl, hk, hb, Kx => by
  have := qJ h h0
  refine Ev.suc.trans ?_
  simp (disch := omega) only [Z32.l2, Z32.l2.b, if_neg, decide_eq_true_eq, Ev.s2 Kx]
  rw [List.take_of_length_le (by omega), vM, List.append_nil]
  refine qAN ?_; simp
 | y :: ys, l, k, x, h, h0, hl, hk, hb, Kx => by
  obtain ⟨e1, e2, e3⟩ := qD h h0
  simp only [List.length_cons] at hb
  refine Ev.suc.trans ?_
  simp (disch := first | assumption | exact hy0.1 | exact hy0.2 | exact hy0.2.1 | exact hy0.2.2 | exact hy0.2.2.1 | exact hy0.2.2.2 | omega) only [Z32.l2, Z32.l2.b, if_pos, decide_eq_true_eq, Ev.s2 Kx, qF, qG, qCw, qBW, List.length_set, List.set_set, e2]
  rw [qLJ ys _ _ (x + 1) (yX e3 (by omega)) (by omega) (by simpa using hl) (by omega) (by omega), Ev.s2 Kx, zR (by omega) (by omega), List.append_assoc, vM]
  simp only [List.length_cons, List.singleton_append]
  exact qAM (by omega) (by congr 2 <;> first | rfl | omega | (congr 1; omega) | skip)
theorem qLK {l : List Int} {k : Int} (hl : l.length <= 1099511627776) (hk : 0 < k) (hb : k + (l.length : Int) <= 4611686018427387904) (R : Nat -> Int -> List Int -> Prop) :
  Ev (fun n => Z32.c n l k (R n)) ↔ Ev (fun n => R n (k + (l.length : Int)) (vM l k)) := by
 refine Ev.suc.trans ?_
 simp only [Z32.c, Z32.w]
 rw [qLJ l l k 0 rfl (by omega) hl hk hb, Ev.s2 R]
 rfl
theorem qC0 : ∀ {l : List Int} {k : Int}, (vM l k).length = l.length
 | [], _ => rfl
 | y :: l, k => by simp [vM, qC0]
def qAJ : List qB -> Int -> List qB
 | [], _ => []
 | y :: r, k => (k, k + 1, k + 1 + 1, k + 1 + 1 + 1, k + 1 + 1 + 1 + 1, qAh y.2.2.2.2.2.1 (k + 1 + 1 + 1 + 1 + 1), vM y.2.2.2.2.2.2 (k + 1 + 1 + 1 + 1 + 1 + ((y.2.2.2.2.2.1.length : Nat) : Int))) :: qAJ r (k + 1 + 1 + 1 + 1 + 1 + ((y.2.2.2.2.2.1.length : Nat) : Int) + ((y.2.2.2.2.2.2.length : Nat) : Int))
def vD : List qB -> Nat
 | [] => 0
 | y :: r => (5 + y.2.2.2.2.2.1.length + y.2.2.2.2.2.2.length) + vD r
theorem qLF : ∀ (ys l : List qB) (k x : Int), l.drop x.toNat = ys -> 0 <= x -> l.length <= 1099511627776 -> 0 < k -> k + (vD ys : Int) <= 4611686018427387904 -> (∀ y ∈ ys, y.2.2.2.2.2.1.length <= 1099511627776 /\ y.2.2.2.2.2.2.length <= 1099511627776) -> ∀ (Kx : Nat -> Int -> List qB -> Prop),
  (Ev (fun n => Z36.l2 n k x l (Kx n)) ↔ Ev (fun n => Kx n (k + (vD ys : Int)) (l.take x.toNat ++ qAJ ys k)))
 | [], l, k, x, h, h0, hl, hk, hb, hy, Kx => by
  have := qJ h h0
  refine Ev.suc.trans ?_
  simp (disch := omega) only [Z36.l2, Z36.l2.b, if_neg, decide_eq_true_eq, Ev.s2 Kx]
  rw [List.take_of_length_le (by omega), qAJ, List.append_nil]
  refine qAN ?_; simp [vD]
 | y :: ys, l, k, x, h, h0, hl, hk, hb, hy, Kx => by
  obtain ⟨e1, e2, e3⟩ := qD h h0
  have hy0 := hy y List.mem_cons_self
  simp only [List.length_cons, vD] at hb
  refine Ev.suc.trans ?_
  simp (disch := first | assumption | exact hy0.1 | exact hy0.2 | exact hy0.2.1 | exact hy0.2.2 | exact hy0.2.2.1 | exact hy0.2.2.2 | omega) only [Z36.l2, Z36.l2.b, if_pos, decide_eq_true_eq, Ev.s2 Kx, qF, qG, qCw, qBW, List.length_set, List.set_set, e2, qLK, qOt]
  rw [qLF ys _ _ (x + 1) (yX e3 (by omega)) (by omega) (by simpa using hl) (by omega) (by omega) (fun y hy' => hy y (List.mem_cons_of_mem _ hy')), Ev.s2 Kx, zR (by omega) (by omega), List.append_assoc, qAJ]
  simp only [List.length_cons, vD, List.singleton_append]
  exact qAM (by omega) (by congr 2 <;> first | rfl | omega | (congr 1; omega) | skip)
theorem qOw {l : List qB} {k : Int} (hl : l.length <= 1099511627776) (hk : 0 < k) (hb : k + (vD l : Int) <= 4611686018427387904) (hy : ∀ y ∈ l, y.2.2.2.2.2.1.length <= 1099511627776 /\ y.2.2.2.2.2.2.length <= 1099511627776) (R : Nat -> Int -> List qB -> Prop) :
  Ev (fun n => Z36.c n l k (R n)) ↔ Ev (fun n => R n (k + (vD l : Int)) (qAJ l k)) := by
 refine Ev.suc.trans ?_
 simp only [Z36.c, Z36.w]
 rw [qLF l l k 0 rfl (by omega) hl hk hb hy, Ev.s2 R]
 rfl
theorem qBJ : ∀ {l : List qB}, vD l <= 8 * (l.length + jR l)
 | [] => by simp [vD]
 | y :: r => by
  have := qBJ (l := r)
  simp only [vD, jR, List.length_cons]; omega
def xS : List qA -> Int -> List qA
 | [], _ => []
 | y :: r, k => (k, decide (Int.tmod (k + 1) 3 = 0), qAJ y.2.2.1 (k + 1 + 1), qAJ y.2.2.2 (k + 1 + 1 + ((vD y.2.2.1 : Nat) : Int))) :: xS r (k + 1 + 1 + ((vD y.2.2.1 : Nat) : Int) + ((vD y.2.2.2 : Nat) : Int))
def zV : List qA -> Nat
 | [] => 0
 | y :: r => (2 + (vD y.2.2.1) + (vD y.2.2.2)) + zV r
theorem qLG : ∀ (ys l : List qA) (k x : Int), l.drop x.toNat = ys -> 0 <= x -> l.length <= 1099511627776 -> 0 < k -> k + (zV ys : Int) <= 4611686018427387904 -> (∀ y ∈ ys, y.2.2.1.length <= 1099511627776 /\ (∀ z : qB, z ∈ y.2.2.1 -> z.2.2.2.2.2.1.length <= 1099511627776 /\ z.2.2.2.2.2.2.length <= 1099511627776) /\ y.2.2.2.length <= 1099511627776 /\ (∀ z : qB, z ∈ y.2.2.2 -> z.2.2.2.2.2.1.length <= 1099511627776 /\ z.2.2.2.2.2.2.length <= 1099511627776)) -> ∀ (Kx : Nat -> Int -> List qA -> Prop),
  (Ev (fun n => Z35.l2 n k x l (Kx n)) ↔ Ev (fun n => Kx n (k + (zV ys : Int)) (l.take x.toNat ++ xS ys k)))
 | [], l, k, x, h, h0, hl, hk, hb, hy, Kx => by
  have := qJ h h0
  refine Ev.suc.trans ?_
  simp (disch := omega) only [Z35.l2, Z35.l2.b, if_neg, decide_eq_true_eq, Ev.s2 Kx]
  rw [List.take_of_length_le (by omega), xS, List.append_nil]
  refine qAN ?_; simp [zV]
 | y :: ys, l, k, x, h, h0, hl, hk, hb, hy, Kx => by
  obtain ⟨e1, e2, e3⟩ := qD h h0
  have hy0 := hy y List.mem_cons_self
  simp only [List.length_cons, zV] at hb
  refine Ev.suc.trans ?_
  simp (disch := first | assumption | exact hy0.1 | exact hy0.2 | exact hy0.2.1 | exact hy0.2.2 | exact hy0.2.2.1 | exact hy0.2.2.2 | omega) only [Z35.l2, Z35.l2.b, if_pos, decide_eq_true_eq, Ev.s2 Kx, qF, qG, qCw, qBW, List.length_set, List.set_set, e2, qOw]
  rw [qLG ys _ _ (x + 1) (yX e3 (by omega)) (by omega) (by simpa using hl) (by omega) (by omega) (fun y hy' => hy y (List.mem_cons_of_mem _ hy')), Ev.s2 Kx, zR (by omega) (by omega), List.append_assoc, xS]
  simp only [List.length_cons, zV, List.singleton_append]
  exact qAM (by omega) (by congr 2 <;> first | rfl | omega | (congr 1; omega) | skip)
theorem qOy {l : List qA} {k : Int} (hl : l.length <= 1099511627776) (hk : 0 < k) (hb : k + (zV l : Int) <= 4611686018427387904) (hy : ∀ y ∈ l, y.2.2.1.length <= 1099511627776 /\ (∀ z : qB, z ∈ y.2.2.1 -> z.2.2.2.2.2.1.length <= 1099511627776 /\ z.2.2.2.2.2.2.length <= 1099511627776) /\ y.2.2.2.length <= 1099511627776 /\ (∀ z : qB, z ∈ y.2.2.2 -> z.2.2.2.2.2.1.length <= 1099511627776 /\ z.2.2.2.2.2.2.length <= 1099511627776)) (R : Nat -> Int -> List qA -> Prop) :
  Ev (fun n => Z35.c n l k (R n)) ↔ Ev (fun n => R n (k + (zV l : Int)) (xS l k)) := by
 refine Ev.suc.trans ?_
 simp only [Z35.c, Z35.w]
 rw [qLG l l k 0 rfl (by omega) hl hk hb hy, Ev.s2 R]
 rfl
theorem qCY {l : List qA} (h : (l.length + jV l) <= 1099511627776) : ∀ y : qA, y ∈ l -> y.2.2.1.length <= 1099511627776 /\ (∀ z : qB, z ∈ y.2.2.1 -> z.2.2.2.2.2.1.length <= 1099511627776 /\ z.2.2.2.2.2.2.length <= 1099511627776) /\ y.2.2.2.length <= 1099511627776 /\ (∀ z : qB, z ∈ y.2.2.2 -> z.2.2.2.2.2.1.length <= 1099511627776 /\ z.2.2.2.2.2.2.length <= 1099511627776) := by
 intro y hy
 have := vU hy
 exact ⟨(by omega), (fun z hz => by have := vK hz; exact ⟨(by omega), (by omega)⟩), (by omega), (fun z hz => by have := vK hz; exact ⟨(by omega), (by omega)⟩)⟩
theorem qB9 : ∀ {l : List qA}, zV l <= 8 * (l.length + jV l)
 | [] => by simp [zV]
 | y :: r => by
  have := qB9 (l := r)
  have := qBJ (l := y.2.2.1)
  have := qBJ (l := y.2.2.2)
  simp only [zV, jV, List.length_cons]; omega
theorem qLH : ∀ (ys l : List Int) (k x : Int), l.drop x.toNat = ys -> 0 <= x -> l.length <= 1099511627776 -> 0 < k -> k + (ys.length : Int) <= 4611686018427387904 -> ∀ (Kx : Nat -> Int -> List Int -> Prop),
  (Ev (fun n => Z34.l2 n k x l (Kx n)) ↔ Ev (fun n => Kx n (k + (ys.length : Int)) (l.take x.toNat ++ vM ys k)))
 | [], l, k, x, h, h0, hl, hk, hb, Kx => by
  have := qJ h h0
  refine Ev.suc.trans ?_
  simp (disch := omega) only [Z34.l2, Z34.l2.b, if_neg, decide_eq_true_eq, Ev.s2 Kx]
  rw [List.take_of_length_le (by omega), vM, List.append_nil]
  refine qAN ?_; simp
 | y :: ys, l, k, x, h, h0, hl, hk, hb, Kx => by
  obtain ⟨e1, e2, e3⟩ := qD h h0
  simp only [List.length_cons] at hb
  refine Ev.suc.trans ?_
  simp (disch := first | assumption | exact hy0.1 | exact hy0.2 | exact hy0.2.1 | exact hy0.2.2 | exact hy0.2.2.1 | exact hy0.2.2.2 | omega) only [Z34.l2, Z34.l2.b, if_pos, decide_eq_true_eq, Ev.s2 Kx, qF, qG, qCw, qBW, List.length_set, List.set_set, e2]
  rw [qLH ys _ _ (x + 1) (yX e3 (by omega)) (by omega) (by simpa using hl) (by omega) (by omega), Ev.s2 Kx, zR (by omega) (by omega), List.append_assoc, vM]
  simp only [List.length_cons, List.singleton_append]
  exact qAM (by omega) (by congr 2 <;> first | rfl | omega | (congr 1; omega) | skip)
theorem qOA {l : List Int} {k : Int} (hl : l.length <= 1099511627776) (hk : 0 < k) (hb : k + (l.length : Int) <= 4611686018427387904) (R : Nat -> Int -> List Int -> Prop) :
  Ev (fun n => Z34.c n l k (R n)) ↔ Ev (fun n => R n (k + (l.length : Int)) (vM l k)) := by
 refine Ev.suc.trans ?_
 simp only [Z34.c, Z34.w]
 rw [qLH l l k 0 rfl (by omega) hl hk hb, Ev.s2 R]
 rfl
def wX : List (List Int) -> Int -> List (List Int)
 | [], _ => []
 | y :: r, k => (vM y k) :: wX r (k + ((y.length : Nat) : Int))
def jZ : List (List Int) -> Nat
 | [] => 0
 | y :: r => (y.length) + jZ r
theorem qLI : ∀ (ys l : List (List Int)) (k x : Int), l.drop x.toNat = ys -> 0 <= x -> l.length <= 1099511627776 -> 0 < k -> k + (jZ ys : Int) <= 4611686018427387904 -> (∀ y ∈ ys, y.length <= 1099511627776) -> ∀ (Kx : Nat -> Int -> List (List Int) -> Prop),
  (Ev (fun n => Z33.l2 n k x l (Kx n)) ↔ Ev (fun n => Kx n (k + (jZ ys : Int)) (l.take x.toNat ++ wX ys k)))
 | [], l, k, x, h, h0, hl, hk, hb, hy, Kx => by
  have := qJ h h0
  refine Ev.suc.trans ?_
  simp (disch := omega) only [Z33.l2, Z33.l2.b, if_neg, decide_eq_true_eq, Ev.s2 Kx]
  rw [List.take_of_length_le (by omega), wX, List.append_nil]
  refine qAN ?_; simp [jZ]
 | y :: ys, l, k, x, h, h0, hl, hk, hb, hy, Kx => by
  obtain ⟨e1, e2, e3⟩ := qD h h0
  have hy0 := hy y List.mem_cons_self
  simp only [List.length_cons, jZ] at hb
  refine Ev.suc.trans ?_
  simp (disch := first | assumption | exact hy0.1 | exact hy0.2 | exact hy0.2.1 | exact hy0.2.2 | exact hy0.2.2.1 | exact hy0.2.2.2 | omega) only [Z33.l2, Z33.l2.b, if_pos, decide_eq_true_eq, Ev.s2 Kx, qF, qG, qCw, qBW, List.length_set, List.set_set, e2, qLK, qOA]
  rw [qLI ys _ _ (x + 1) (yX e3 (by omega)) (by omega) (by simpa using hl) (by omega) (by omega) (fun y hy' => hy y (List.mem_cons_of_mem _ hy')), Ev.s2 Kx, zR (by omega) (by omega), List.append_assoc, wX]
  simp only [List.length_cons, jZ, List.singleton_append]
  exact qAM (by omega) (by congr 2 <;> first | rfl | omega | (congr 1; omega) | skip)
theorem qOC {l : List (List Int)} {k : Int} (hl : l.length <= 1099511627776) (hk : 0 < k) (hb : k + (jZ l : Int) <= 4611686018427387904) (hy : ∀ y ∈ l, y.length <= 1099511627776) (R : Nat -> Int -> List (List Int) -> Prop) :
  Ev (fun n => Z33.c n l k (R n)) ↔ Ev (fun n => R n (k + (jZ l : Int)) (wX l k)) := by
 refine Ev.suc.trans ?_
 simp only [Z33.c, Z33.w]
 rw [qLI l l k 0 rfl (by omega) hl hk hb hy, Ev.s2 R]
 rfl
theorem qDg : ∀ {l : List (List Int)}, jZ l <= 8 * (l.length + yS l)
 | [] => by simp [jZ]
 | y :: r => by
  have := qDg (l := r)
  simp only [jZ, yS, List.length_cons]; omega
theorem qB2 : ∀ {l : List (List Int)} {k : Int}, (wX l k).length = l.length
 | [], _ => rfl
 | y :: l, k => by simp [wX, qB2]
theorem qLN {l : List Int} (hl : l.length <= 1099511627776) : ∀ (ys : List Int) (k x : Int), l.drop x.toNat = vM ys k -> 0 <= x -> 0 < k -> k + (ys.length : Int) <= 4611686018427387904 -> ∀ (Kx Kr : Nat -> Int -> Prop),
  (Ev (fun n => Z29.l2 n l k x (Kx n) (Kr n)) ↔ Ev (fun n => Kx n (k + (ys.length : Int))))
 | [], k, x, h, h0, hk, hb, Kx, Kr => by
  have := qJ h h0
  refine Ev.suc.trans ?_
  simp (disch := omega) only [Z29.l2, Z29.l2.b, if_neg, decide_eq_true_eq, Ev.s1 Kx]
  refine jN ?_; simp
 | y :: ys, k, x, h, h0, hk, hb, Kx, Kr => by
  obtain ⟨e1, e2, e3⟩ := qD h h0
  simp only [List.length_cons] at hb
  refine Ev.suc.trans ?_
  simp (disch := first | assumption | exact hy0.1 | exact hy0.2 | exact hy0.2.1 | exact hy0.2.2 | exact hy0.2.2.1 | exact hy0.2.2.2 | omega) only [Z29.l2, Z29.l2.b, if_pos, if_neg, decide_eq_true_eq, Bool.not_eq_true', decide_eq_false_iff_not, not_true, if_false, Ev.s1 Kx, qF, qG, qCw, e2, beq_self_eq_true, Bool.true_eq_false, Bool.not_true, Bool.false_eq_true, decide_true, decide_not, Ev.iteI]
  rw [qLN hl ys _ (x + 1) (by first | exact e3 | (rw [e3]; congr 1 <;> omega)) (by omega) (by omega) (by omega), Ev.s1 Kx]
  refine jN ?_; simp only [List.length_cons]; try omega
theorem qOJ {l : List Int} {k : Int} (hl : l.length <= 1099511627776) (hk : 0 < k) (hb : k + (l.length : Int) <= 4611686018427387904) (R : Nat -> Int -> Prop) :
  Ev (fun n => Z29.c n (vM l k) k (R n)) ↔ Ev (fun n => R n (k + (l.length : Int))) := by
 refine Ev.suc.trans ?_
 simp only [Z29.c, Z29.w]
 rw [qLN (by rw [qC0]; exact hl) l k 0 rfl (by omega) hk hb, Ev.s1 R]
theorem qLM {l : List (List Int)} (hl : l.length <= 1099511627776) : ∀ (ys : List (List Int)) (k x : Int), l.drop x.toNat = wX ys k -> 0 <= x -> 0 < k -> k + (jZ ys : Int) <= 4611686018427387904 -> (∀ y ∈ ys, y.length <= 1099511627776) -> ∀ (Kx Kr : Nat -> Int -> Prop),
  (Ev (fun n => Z30.l2 n l k x (Kx n) (Kr n)) ↔ Ev (fun n => Kx n (k + (jZ ys : Int))))
 | [], k, x, h, h0, hk, hb, hy, Kx, Kr => by
  have := qJ h h0
  refine Ev.suc.trans ?_
  simp (disch := omega) only [Z30.l2, Z30.l2.b, if_neg, decide_eq_true_eq, Ev.s1 Kx]
  refine jN ?_; simp [jZ]
 | y :: ys, k, x, h, h0, hk, hb, hy, Kx, Kr => by
  obtain ⟨e1, e2, e3⟩ := qD h h0
  have hy0 := hy y List.mem_cons_self
  simp only [List.length_cons, jZ] at hb
  refine Ev.suc.trans ?_
  simp (disch := first | assumption | exact hy0.1 | exact hy0.2 | exact hy0.2.1 | exact hy0.2.2 | exact hy0.2.2.1 | exact hy0.2.2.2 | omega) only [Z30.l2, Z30.l2.b, if_pos, if_neg, decide_eq_true_eq, Bool.not_eq_true', decide_eq_false_iff_not, not_true, if_false, Ev.s1 Kx, qF, qG, qCw, e2, qOJ, beq_self_eq_true, Bool.true_eq_false, Bool.not_true, Bool.false_eq_true, decide_true, decide_not, Ev.iteI]
  rw [qLM hl ys _ (x + 1) (by first | exact e3 | (rw [e3]; congr 1 <;> omega)) (by omega) (by omega) (by omega) (fun y hy' => hy y (List.mem_cons_of_mem _ hy')), Ev.s1 Kx]
  refine jN ?_; simp only [List.length_cons, jZ]; try omega
theorem qOH {l : List (List Int)} {k : Int} (hl : l.length <= 1099511627776) (hk : 0 < k) (hb : k + (jZ l : Int) <= 4611686018427387904) (hy : ∀ y ∈ l, y.length <= 1099511627776) (R : Nat -> Int -> Prop) :
  Ev (fun n => Z30.c n (wX l k) k (R n)) ↔ Ev (fun n => R n (k + (jZ l : Int))) := by
 refine Ev.suc.trans ?_
 simp only [Z30.c, Z30.w]
 rw [qLM (by rw [qB2]; exact hl) l k 0 rfl (by omega) hk hb hy, Ev.s1 R]
theorem qPs {l : List Int} (h : Gd (.sl 0 (.int .u64)) l) : Wd l := fun x hx => ⟨(h.2 x hx).1, (h.2 x hx).2⟩
theorem qIB {t : List qB} (h : Gd (.sl 0 qMQ) t) (hz : t.length + jR t <= 1099511627776) : ∀ x : qB, x ∈ t -> Wd x.2.2.2.2.2.1 /\ x.2.2.2.2.2.2.length <= 1099511627776 :=
 fun x hx => ⟨qPs (h.2 x hx).2.2.2.2.2.1, by have := vK hx; omega⟩
theorem qM7 {l : List qA} (h : Gd (.sl 0 qEg) l) (hz : l.length + jV l <= 1099511627776) : qPg l := fun y hy =>
 have := vU hy
 ⟨qIB (h.2 y hy).2.2.1 (by omega), qIB (h.2 y hy).2.2.2 (by omega)⟩
theorem qHY {d : List qP} {l : List qA} : (xE d l).1.length <= 60 /\ ∀ z ∈ (xE d l).1, z.length <= 60 := by
 unfold xE
 by_cases h : qAy d l = true
 ·rw [if_pos h]
  obtain ⟨a1, a2, a3, a4, a5⟩ := qBA h
  constructor
  ·show (zI _ _ _).length <= 60
   rw [yK]
   have := List.length_filter_le (first (kW d l)) (List.range l.length)
   rw [List.length_range] at this
   exact Nat.le_trans this a3
  ·intro z hz
   have hz : z ∈ zI (kW d l) (fun k => (rd l k).1) l.length := hz
   rw [zI, List.mem_map] at hz
   obtain ⟨i, _, rfl⟩ := hz
   rw [List.length_map]
   have := List.length_filter_le (fun k => decide (rd (kW d l) k = rd (kW d l) i)) (List.range l.length)
   rw [List.length_range] at this; omega
 ·rw [if_neg h]; exact ⟨by simp, fun z hz => by simp at hz⟩
theorem qGk {l : List (List Int)} {k : Nat} (h : ∀ z ∈ l, z.length <= k) : yS l <= k * l.length := by
 induction l with
 | nil => simp [yS]
 | cons y r ih =>
  have h1 := h y List.mem_cons_self
  have h2 := ih fun z hz => h z (List.mem_cons_of_mem _ hz)
  rw [yS, List.length_cons, Nat.mul_succ]; omega
theorem qI2 {d : List qP} {l : List qA} {c : Bool} {a b : List (List Int)} {Kc0 : Nat -> Bool -> Prop} {Kc1 : Nat -> List qP -> List qA -> Bool -> List (List Int) -> List (List Int) -> Prop} (h : Ev (fun n => Kc1 n d l c a b)) :
  Ev (fun n => laws_FnExactParts.q22 n d l c false a b (Kc0 n) (Kc1 n)) := by
 refine Ev.succ ?_
 simp only [laws_FnExactParts.q22, laws_FnExactParts.q22.b]
 exact Ev.neg (by decide) h.shift
theorem parts_law {d : List qP} {l : List qA} (hd : Gd (.sl 0 qMR) d) (hl : Gd (.sl 0 qEg) l) (K : Bool -> Prop) : True /\ (K true -> Ev (fun n => laws_FnExactParts.c n d l K)) := by
 refine ⟨trivial, fun hK => ?_⟩
 refine Ev.succ ?_
 simp only [laws_FnExactParts.c, laws_FnExactParts.w]
 rw [qOn (by omega) (by omega) hd.1 (qHP hd)]
 by_cases z1 : ((d.length + yC d : Nat) : Int) <= 1048576
 rotate_left
 ·rw [qLe z1]; exact Ev.pos (by simp) (Ev.const hK)
 rw [qLd z1]
 refine Ev.neg (by simp; omega) ?_
 rw [qOh (by omega) (by omega) hl.1 (qEm hl)]
 by_cases z2 : ((l.length + jV l : Nat) : Int) <= 1048576 - ((d.length + yC d : Nat) : Int)
 rotate_left
 ·rw [qLe z2]; exact Ev.pos (by simp) (Ev.const hK)
 rw [qLd z2]
 refine Ev.neg (by simp; omega) ?_
 have t1 := fun R => qN3 (l := d) (by omega) R
 have t2 := fun R => qNX (l := l) (by omega) R
 have sS := fun R hR => qI3 (d := d) (l := l) (by omega) (qM7 hl (by omega)) R hR
 have sI := fun R hR => qI4 (d := d) (l := l) (by omega) R hR
 obtain ⟨hr, hrr⟩ := qHY (d := d) (l := l)
 generalize xE d l = r at sS sI hr hrr
 have hs := qGk hrr
 have hsb : yS r.1 <= 3600 := Nat.le_trans hs (Nat.mul_le_mul (Nat.le_refl 60) hr)
 have hrb : ∀ z ∈ r.1, z.length <= 1099511627776 := fun z hz => Nat.le_trans (hrr z hz) (by decide)
 have c0 := qDg (l := r.1)
 have e0 := fun R => qOX (l := r.1) (l' := r.1) (by omega) hrb R
 have e1 := fun R => qO0 (l := d) (l' := d) (by omega) R
 have e2 := fun R => qOT (l := l) (l' := l) (by omega) (qEI (by omega)) R
 have c1 := qFZ (l := d)
 have c2 := qB9 (l := l)
 have m1 := fun R => qOF (l := d) (k := 1) (by omega) (by omega) (by omega) R
 have m2 := fun R => qOy (l := l) (k := 1 + (xH d : Int)) (by omega) (by omega) (by omega) (qCY (by omega)) R
 have m0 := fun R => qOC (l := r.1) (k := 1) (by omega) (by omega) (by omega) hrb R
 have k0 := fun R => qOH (l := r.1) (k := 1) (by omega) (by omega) (by omega) hrb R
 simp only [beq_self_eq_true, decide_true, and_self] at e0 e1 e2
 rw [t1, t2]
 refine sS _ ?_
 rw [t1, t2]
 refine sI _ ?_
 rw [e0]
 refine Ev.pos (by simp) (Ev.neg (by simp) ?_)
 refine Ev.succ ?_
 simp only [laws_FnExactParts.q14, laws_FnExactParts.q14.b]
 rw [t1, e1]
 refine Ev.neg (by simp) ?_
 rw [t2, e2]
 refine Ev.neg (by simp) ?_
 rw [m1, m2]
 refine Ev.pos (by simp; omega) ?_
 rw [e0]
 refine Ev.pos (by simp) ?_
 simp only [beq_self_eq_true, Bool.not_true]
 refine qI2 (Kc0 := fun n y => K y) (Kc1 := fun n a b c e f => laws_FnExactParts.j1 (fun y => K y) n a b c e f) ?_
 simp only [laws_FnExactParts.j1, laws_FnExactParts.j0]
 rw [m0, k0]
 refine Ev.neg (by simp; omega) (Ev.neg (by simp) ?_)
 rw [t1, t2]
 refine sI _ ?_
 rw [e0]
 refine Ev.pos (by simp) (Ev.neg (by simp) ?_)
 rw [k0]
 exact Ev.neg (by simp; omega) (Ev.neg (by simp) (Ev.const hK))
end Go.Vsi
end
