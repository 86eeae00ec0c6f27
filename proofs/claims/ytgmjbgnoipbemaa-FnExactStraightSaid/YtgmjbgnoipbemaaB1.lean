/- What the told functions answer. No statement is proved here. -/
import Derived.Test.YtgmjbgnoipbemaaA1

section
set_option linter.unusedVariables false
namespace Go.Vsi
def Ev (P : Nat -> Prop) : Prop := ∃ N, ∀ n, N <= n -> P n
theorem Ev.succ {P : Nat -> Prop} : Ev (fun n => P (n + 1)) -> Ev P
 | ⟨N, h⟩ => ⟨N + 1, fun n hn => by obtain ⟨m, rfl⟩ : ∃ m, n = m + 1 := ⟨n - 1, by omega⟩; exact h m (by omega)⟩
theorem Ev.shift {P : Nat -> Prop} : Ev P -> Ev (fun n => P (n + 1))
 | ⟨N, h⟩ => ⟨N, fun n hn => h (n + 1) (by omega)⟩
theorem Ev.and {P Q : Nat -> Prop} : Ev P -> Ev Q -> Ev (fun n => P n /\ Q n)
 | ⟨N, h⟩, ⟨M, g⟩ => ⟨max N M, fun n hn => ⟨h n (by omega), g n (by omega)⟩⟩
theorem Ev.const {p : Prop} (h : p) : Ev (fun _ => p) := ⟨0, fun _ _ => h⟩
theorem Ev.imp {P Q : Nat -> Prop} (hpq : ∀ n, P n -> Q n) : Ev P -> Ev Q
 | ⟨N, h⟩ => ⟨N, fun n hn => hpq n (h n hn)⟩
theorem Ev.grd {b : Bool} {P : Nat -> Prop} (hb : b = true) (h : Ev P) : Ev (fun n => grd b (P n)) := by
 subst hb; exact h
theorem Ev.pos {c : Prop} [Decidable c] {P Q : Nat -> Prop} (h : c) (h1 : Ev P) : Ev (fun n => if c then P n else Q n) := by
 simp only [if_pos h]; exact h1
theorem Ev.neg {c : Prop} [Decidable c] {P Q : Nat -> Prop} (h : ¬ c) (h1 : Ev Q) : Ev (fun n => if c then P n else Q n) := by
 simp only [if_neg h]; exact h1
theorem Ev.some {P : Nat -> Prop} : Ev P -> ∃ n, P n
 | ⟨N, h⟩ => ⟨N, h N (Nat.le_refl _)⟩
theorem wrap64 {x : Int} (h1 : -9223372036854775808 <= x) (h2 : x < 9223372036854775808) : IntKind.wrap .i64 x = x := by
 simp only [IntKind.wrap, IntKind.bits, IntKind.signed, Bool.true_and]
 split <;> simp_all <;> omega
theorem wrapU {x : Int} (h1 : 0 <= x) (h2 : x < 18446744073709551616) : IntKind.wrap .u64 x = x := by
 simp only [IntKind.wrap, IntKind.bits, IntKind.signed, Bool.false_and]
 simp; omega
theorem wrap8 {x : Int} (h1 : 0 <= x) (h2 : x < 256) : IntKind.wrap .u8 x = x := by
 simp only [IntKind.wrap, IntKind.bits, IntKind.signed, Bool.false_and]
 simp; omega
theorem tdivP {x m : Int} (h : 0 <= x) : Int.tdiv x m = x / m := Int.tdiv_eq_ediv_of_nonneg h
theorem tmodP {x m : Int} (h : 0 <= x) : Int.tmod x m = x % m := Int.tmod_eq_emod_of_nonneg h
theorem fdivP {x m : Int} (h : 0 <= m) : Int.fdiv x m = x / m := Int.fdiv_eq_ediv_of_nonneg x h
def W (ws : List Nat) : List Int := ws.map Int.ofNat
theorem W_len (ws : List Nat) : (W ws).length = ws.length := by simp [W]
theorem W_rd (ws : List Nat) (i : Nat) : rd (W ws) i = ((ws.getD i 0 : Nat) : Int) := by
 simp only [rd, W, List.getD_eq_getElem?_getD, List.getElem?_map]
 cases ws[i]? <;> rfl
def Below (m : Nat) (ws : List Nat) : Prop := ∀ x ∈ ws, x < m
theorem W_of {m : Nat} : ∀ {l : List Int}, (∀ x ∈ l, 0 <= x /\ x < (m : Int)) -> ∃ ws, l = W ws /\ Below m ws
 | [], _ => ⟨[], rfl, by simp [Below]⟩
 | x :: l, h => by
  obtain ⟨ws, rfl, hb⟩ := W_of (l := l) fun y hy => h y (by simp [hy])
  have hx := h x (by simp)
  refine ⟨x.toNat :: ws, ?_, ?_⟩
  ·simp only [W, List.map_cons, List.cons.injEq, and_true]
   show x = (x.toNat : Int); omega
  ·intro y hy
   simp only [List.mem_cons] at hy
   rcases hy with rfl | hy
   ·omega
   ·exact hb y hy
theorem Below.getD {m : Nat} {ws : List Nat} (h : Below m ws) (hm : 0 < m) (i : Nat) : ws.getD i 0 < m := by
 rw [List.getD_eq_getElem?_getD]
 cases hw : ws[i]? with
 | none => exact hm
 | some y => exact h y (List.mem_of_getElem? hw)
theorem Below.set {m : Nat} {ws : List Nat} (h : Below m ws) {i x : Nat} (hx : x < m) : Below m (ws.set i x) := by
 intro y hy
 rcases List.mem_or_eq_of_mem_set hy with h' | rfl
 ·exact h y h'
 ·exact hx
theorem Below.app {m : Nat} {a b : List Nat} (ha : Below m a) (hb : Below m b) : Below m (a ++ b) := by
 intro y hy
 rcases List.mem_append.mp hy with h | h
 ·exact ha y h
 ·exact hb y h
theorem and_W {a b : Nat} (ha : a < 18446744073709551616) (hb : b < 18446744073709551616) : ibits .and .u64 (a : Int) (b : Int) = ((a &&& b : Nat) : Int) := by
 have hab : a &&& b < 2 ^ 64 := Nat.and_lt_two_pow a hb
 show IntKind.wrap .u64 (((BitVec.ofInt 64 (a : Int) &&& BitVec.ofInt 64 (b : Int) : BitVec 64).toNat : Nat) : Int) = _
 rw [BitVec.toNat_and, BitVec.ofInt_natCast, BitVec.ofInt_natCast, BitVec.toNat_ofNat, BitVec.toNat_ofNat]
 rw [Nat.mod_eq_of_lt ha, Nat.mod_eq_of_lt hb]
 exact wrapU (by omega) (by omega)
theorem shr_W (a k : Nat) (hk : k <= 64) : Int.fdiv (a : Int) (2 ^ (Nat.min k 64)) = ((a >>> k : Nat) : Int) := by
 rw [fdivP (Int.le_of_lt (Int.pow_pos (by decide))), show Nat.min k 64 = k from Nat.min_eq_left hk, Nat.shiftRight_eq_div_pow]
 simp
def bit (ws : List Nat) (i : Nat) : Bool := (ws.getD (i / 64) 0).testBit (i % 64)
theorem bit_out {ws : List Nat} {i : Nat} (h : 64 * ws.length <= i) : bit ws i = false := by
 have : ws.length <= i / 64 := by omega
 simp [bit, List.getD_eq_getElem?_getD, List.getElem?_eq_none this]
end Go.Vsi
end

section
set_option linter.unusedVariables false
namespace Go.Vsi
theorem Ev.suc {P : Nat -> Prop} : Ev P ↔ Ev (fun n => P (n + 1)) := ⟨Ev.shift, Ev.succ⟩
theorem Ev.s0 (R : Nat -> Prop) : Ev (fun n => R (n + 1)) ↔ Ev (fun n => R n) := ⟨Ev.succ, Ev.shift⟩
theorem Ev.s1 {α : Type} (R : Nat -> α -> Prop) (a : α) : Ev (fun n => R (n + 1) a) ↔ Ev (fun n => R n a) := Ev.s0 (fun n => R n a)
theorem Ev.s2 {α β : Type} (R : Nat -> α -> β -> Prop) (a : α) (b : β) : Ev (fun n => R (n + 1) a b) ↔ Ev (fun n => R n a b) := Ev.s0 (fun n => R n a b)
theorem Ev.s3 {α β γ : Type} (R : Nat -> α -> β -> γ -> Prop) (a : α) (b : β) (c : γ) : Ev (fun n => R (n + 1) a b c) ↔ Ev (fun n => R n a b c) := Ev.s0 (fun n => R n a b c)
theorem Ev.s6 {α β γ δ ε ζ : Type} (R : Nat -> α -> β -> γ -> δ -> ε -> ζ -> Prop) (a : α) (b : β) (c : γ) (d : δ) (e : ε) (f : ζ) : Ev (fun n => R (n + 1) a b c d e f) ↔ Ev (fun n => R n a b c d e f) := Ev.s0 (fun n => R n a b c d e f)
theorem Ev.s7 {α β γ δ ε ζ η : Type} (R : Nat -> α -> β -> γ -> δ -> ε -> ζ -> η -> Prop) (a : α) (b : β) (c : γ) (d : δ) (e : ε) (f : ζ) (g : η) : Ev (fun n => R (n + 1) a b c d e f g) ↔ Ev (fun n => R n a b c d e f g) := Ev.s0 (fun n => R n a b c d e f g)
theorem Ev.s8 {α β γ δ ε ζ η θ : Type} (R : Nat -> α -> β -> γ -> δ -> ε -> ζ -> η -> θ -> Prop) (a : α) (b : β) (c : γ) (d : δ) (e : ε) (f : ζ) (g : η) (h : θ) : Ev (fun n => R (n + 1) a b c d e f g h) ↔ Ev (fun n => R n a b c d e f g h) := Ev.s0 (fun n => R n a b c d e f g h)
theorem Ev.s9 {α β γ δ ε ζ η θ ι : Type} (R : Nat -> α -> β -> γ -> δ -> ε -> ζ -> η -> θ -> ι -> Prop) (a : α) (b : β) (c : γ) (d : δ) (e : ε) (f : ζ) (g : η) (h : θ) (i : ι) : Ev (fun n => R (n + 1) a b c d e f g h i) ↔ Ev (fun n => R n a b c d e f g h i) := Ev.s0 (fun n => R n a b c d e f g h i)
theorem Ev.s10 {α β γ δ ε ζ η θ ι κ : Type} (R : Nat -> α -> β -> γ -> δ -> ε -> ζ -> η -> θ -> ι -> κ -> Prop) (a : α) (b : β) (c : γ) (d : δ) (e : ε) (f : ζ) (g : η) (h : θ) (i : ι) (j : κ) : Ev (fun n => R (n + 1) a b c d e f g h i j) ↔ Ev (fun n => R n a b c d e f g h i j) := Ev.s0 (fun n => R n a b c d e f g h i j)
@[simp] theorem Ev.k {p : Prop} : Ev (fun _ => p) ↔ p := ⟨fun ⟨_, h⟩ => h _ (Nat.le_refl _), Ev.const⟩
@[simp] theorem Ev.iteI {c : Prop} [Decidable c] {P Q : Nat -> Prop} : Ev (fun n => if c then P n else Q n) ↔ if c then Ev P else Ev Q := by
 by_cases h : c <;> simp only [h, if_true, if_false]
@[simp] theorem Ev.andI {P Q : Nat -> Prop} : Ev (fun n => P n /\ Q n) ↔ Ev P /\ Ev Q :=
 ⟨fun ⟨N, h⟩ => ⟨⟨N, fun n hn => (h n hn).1⟩, ⟨N, fun n hn => (h n hn).2⟩⟩, fun h => Ev.and h.1 h.2⟩
theorem grd_dec {p : Prop} [Decidable p] {P : Prop} (h : p) : grd (decide p) P ↔ P := by rw [decide_eq_true h]; exact Iff.rfl
theorem grd_dec2 {p q : Prop} [Decidable p] [Decidable q] {P : Prop} (h : p /\ q) : grd (decide p && decide q) P ↔ P := by rw [decide_eq_true h.1, decide_eq_true h.2]; exact Iff.rfl
theorem grd_dec3 {p q r : Prop} [Decidable p] [Decidable q] [Decidable r] {P : Prop} (h : p /\ q /\ r) : grd (decide p && decide q && decide r) P ↔ P := by rw [decide_eq_true h.1, decide_eq_true h.2.1, decide_eq_true h.2.2]; exact Iff.rfl
@[simp] theorem grd_true {P : Prop} : grd true P ↔ P := Iff.rfl
theorem drop_nil {α : Type} {l : List α} {x : Int} (h : l.drop x.toNat = []) (h0 : 0 <= x) : (l.length : Int) <= x := by
 have := List.drop_eq_nil_iff.1 h; omega
theorem drop_cons {α : Type} [Inhabited α] {l ys : List α} {x : Int} {y : α} (h : l.drop x.toNat = y :: ys) (h0 : 0 <= x) :
  x < (l.length : Int) /\ rd l x.toNat = y /\ l.drop (x + 1).toNat = ys := by
 have hl : x.toNat < l.length := by
  rcases Nat.lt_or_ge x.toNat l.length with h' | h'
  ·exact h'
  ·rw [List.drop_eq_nil_of_le h'] at h; cases h
 refine ⟨by omega, ?_, ?_⟩
 ·have := List.getElem?_drop (xs := l) (i := x.toNat) (j := 0)
  rw [h] at this
  simp only [List.getElem?_cons_zero, Nat.add_zero] at this
  simp [rd, List.getD_eq_getElem?_getD, <- this]
 ·rw [show (x + 1).toNat = x.toNat + 1 from by omega, <- List.drop_drop, h]; rfl
theorem take_set {α : Type} {l : List α} {x : Int} {v : α} (h0 : 0 <= x) (hx : x < (l.length : Int)) : (l.set x.toNat v).take (x + 1).toNat = l.take x.toNat ++ [v] := by
 have e : (x + 1).toNat = x.toNat + 1 := by omega
 have hl : x.toNat < l.length := by omega
 rw [e, List.take_succ_eq_append_getElem (by simpa using hl), List.take_set_of_le (by omega)]
 simp
theorem rd_set {α : Type} [Inhabited α] {l : List α} {i : Nat} {v : α} (h : i < l.length) : rd (l.set i v) i = v := by
 simp [rd, List.getD_eq_getElem?_getD, h]
theorem ev_arg {α : Type} {R : Nat -> α -> Prop} {a b : α} (h : a = b) : Ev (fun n => R n a) ↔ Ev (fun n => R n b) := by rw [h]
theorem ev_bool {R : Nat -> Bool -> Prop} {b : Bool} : (if b = true then Ev (fun n => R n true) else Ev (fun n => R n false)) ↔ Ev (fun n => R n b) := by cases b <;> simp
def Gd : (t : Ty) -> t.T -> Prop
 | .int k, n => k.min <= n /\ n <= k.max
 | .str, s => s.length <= 9223372036854775807
 | .sl _ t, l => l.length <= 9223372036854775807 /\ ∀ y, y ∈ l -> Gd t y
 | .prod a b, p => Gd a p.1 /\ Gd b p.2
 | .bool, _ => True
 | .unit, _ => True
 | .ptr _ _, _ => True
def firstIx {α : Type} (p : α -> Bool) : List α -> Int -> Int
 | [], _ => -1
 | y :: r, x => if p y = true then x else firstIx p r (x + 1)
theorem firstIx_neg {α : Type} {p : α -> Bool} : ∀ {l : List α} {x : Int}, 0 <= x -> firstIx p l x < 0 -> firstIx p l x = -1
 | [], x, _, _ => rfl
 | y :: l, x, h0, h => by
  rw [firstIx] at h ⊢
  split
  ·rename_i hp; rw [if_pos hp] at h; omega
  ·rename_i hp; rw [if_neg hp] at h; exact firstIx_neg (by omega) h
theorem firstIx_any {α : Type} {p : α -> Bool} : ∀ {l : List α} {x : Int}, 0 <= x -> decide (firstIx p l x >= 0) = l.any p
 | [], x, _ => by simp [firstIx]
 | y :: l, x, h0 => by
  rw [firstIx, List.any_cons]
  by_cases hp : p y = true
  ·simp [hp, h0]
  ·rw [if_neg hp, firstIx_any (by omega)]
   simp only [Bool.not_eq_true] at hp
   simp [hp]
def szr (left : Int) (z : Nat) : Int := if left < z then -1 else left - z
theorem szr_neg {left : Int} {z : Nat} : szr left z < 0 ↔ left < z := by unfold szr; split <;> omega
theorem szr_ok {left : Int} {z : Nat} (h : (z : Int) <= left) : szr left z = left - z := by unfold szr; rw [if_neg (by omega)]
theorem szr_no {left : Int} {z : Nat} (h : ¬ (z : Int) <= left) : szr left z = -1 := by unfold szr; rw [if_pos (by omega)]
theorem szr_two {left : Int} {y z : Nat} (h : 0 <= left) (hy : ¬ szr left y < 0) : szr (szr left y) z = szr left (y + z) := by
 rw [szr_neg] at hy
 unfold szr; split <;> split <;> split <;> omega
theorem szr_back {left : Int} {y z : Nat} (h : szr left y < 0) : szr left (y + z) = -1 := by
 rw [szr_neg] at h; unfold szr; split <;> omega
theorem szr_m1 {left : Int} {z : Nat} (h : -1 <= left) : -1 <= szr left z := by unfold szr; split <;> omega
theorem szr_le' {left b : Int} {z : Nat} (h : -1 <= left) (h' : left <= b) : szr left z <= b := by unfold szr; split <;> omega
end Go.Vsi
end

section
set_option linter.unusedVariables false
set_option linter.unusedSimpArgs false
set_option synthInstance.maxSize 4096
namespace Go.Vsi
end Go.Vsi
end

section
set_option linter.unusedVariables false
set_option linter.unusedSimpArgs false
set_option synthInstance.maxSize 4096
namespace Go.Vsi
def Wd (l : List Int) : Prop := ∀ x ∈ l, 0 <= x /\ x <= 18446744073709551615
def bitsOk (w : Int) (l : List Int) : Bool := decide (1 <= w /\ w <= 4096 /\ (l.length : Int) = (w + 63) / 64 /\ (w % 64 = 0 \/ rd l (l.length - 1) / 2 ^ (w % 64).toNat = 0))
theorem bit_div {x j : Nat} : x / 2 ^ j % 2 = (x.testBit j).toNat := by
 rw [Nat.testBit, Nat.shiftRight_eq_div_pow, Nat.one_and_eq_mod_two]
 rcases Nat.mod_two_eq_zero_or_one (x / 2 ^ j) with h | h <;> simp [h]
theorem l1In_ev {a b c : Int} (R : Nat -> Bool -> Prop) : Ev (fun n => Z61.c n a b c (R n)) ↔ Ev (fun n => R n (decide (b <= a /\ a <= c))) := by
 refine Ev.suc.trans ?_
 simp only [Z61.c, Z61.w, Ev.iteI, decide_eq_true_eq, Ev.s1 R, ge_iff_le]
 split
 ·refine ev_arg ?_; rw [decide_eq_decide]; omega
 ·refine ev_arg ?_; symm; rw [decide_eq_false_iff_not]; omega
theorem inside_ev {a b c : Int} (R : Nat -> Bool -> Prop) : Ev (fun n => Z9.c n a b c (R n)) ↔ Ev (fun n => R n (decide (b <= a /\ a <= c))) := by
 refine Ev.suc.trans ?_
 simp only [Z9.c, Z9.w, Ev.iteI, decide_eq_true_eq, Ev.s1 R, ge_iff_le]
 split
 ·refine ev_arg ?_; rw [decide_eq_decide]; omega
 ·refine ev_arg ?_; symm; rw [decide_eq_false_iff_not]; omega
theorem wordsFor_ev {a : Int} (h0 : 0 <= a) (h1 : a <= 1000000000) (R : Nat -> Int -> Prop) : Ev (fun n => Z14.c n a (R n)) ↔ Ev (fun n => R n ((a + 63) / 64)) := by
 refine Ev.suc.trans ?_
 simp (disch := omega) only [Z14.c, Z14.w, wrap64, tdivP, Ev.s1 R]
theorem l1Bit_ev {ws : List Nat} (hw : Below 18446744073709551616 ws) {k : Nat} (hk : k < 64 * ws.length) (hl : ws.length <= 4096) {w : Int} (R : Nat -> Int -> Prop) :
  Ev (fun n => Z58.c n w (W ws) k (R n)) ↔ Ev (fun n => R n ((bit ws k).toNat : Int)) := by
 refine Ev.suc.trans ?_
 have e : ibits .and .u64 ((ws.getD (k / 64) 0 >>> (k % 64) : Nat) : Int) 1 = (((bit ws k).toNat : Nat) : Int) := by
  have hx : ws.getD (k / 64) 0 >>> (k % 64) < 18446744073709551616 := by
   rw [Nat.shiftRight_eq_div_pow]; exact Nat.lt_of_le_of_lt (Nat.div_le_self _ _) (hw.getD (by decide) _)
  rw [show (1 : Int) = ((1 : Nat) : Int) from rfl, and_W hx (by decide), Nat.and_one_is_mod, Nat.shiftRight_eq_div_pow, bit_div]; rfl
 have e1 : Int.toNat ((k : Int) / 64) = k / 64 := by omega
 have e2 : Int.toNat ((k : Int) % 64) = k % 64 := by omega
 simp (disch := omega) only [Z58.c, Z58.w, W_len, tdivP, tmodP, wrap64, wrapU, grd_dec2, grd_dec, e1, e2, W_rd, shr_W, e]
 rw [wrap8 (by omega) (by cases bit ws k <;> simp), Ev.s1 R]
theorem specOk_lp {ws : List Nat} (hw : Below 18446744073709551616 ws) (hl : ws.length <= 4096) {w : Int} : ∀ (m k : Nat), k + m = 64 * ws.length -> ∃ b : Bool, (b = true ↔ ∀ i, k <= i -> bit ws i = false) /\
  ∀ (Kx : Nat -> Prop) (Kr : Nat -> Bool -> Prop), (Ev (fun n => Z52.l4 n w (W ws) k (Kx n) (Kr n)) ↔ if b = true then Ev Kx else Ev (fun n => Kr n false))
 | 0, k, h => by
  refine ⟨true, ⟨fun _ i hi => bit_out (by omega), fun _ => rfl⟩, fun Kx Kr => ?_⟩
  refine Ev.suc.trans ?_
  simp (disch := omega) only [Z52.l4, Z52.l4.b, W_len, wrap64, if_neg, decide_eq_true_eq, Ev.s0 Kx, if_true]
 | m + 1, k, h => by
  obtain ⟨b, hb, kk⟩ := specOk_lp hw hl (w := w) m (k + 1) (by omega)
  refine ⟨b && !bit ws k, ?_, fun Kx Kr => ?_⟩
  ·simp only [Bool.and_eq_true, Bool.not_eq_true', hb]
   constructor
   ·rintro ⟨h1, h2⟩ i hi
    rcases Nat.lt_or_eq_of_le hi with h' | rfl
    ·exact h1 i h'
    ·exact h2
   ·exact fun h => ⟨fun i hi => h i (by omega), h k (Nat.le_refl _)⟩
  ·refine Ev.suc.trans ?_
   have e : ((k : Int) + 1) = ((k + 1 : Nat) : Int) := by omega
   simp (disch := omega) only [Z52.l4, Z52.l4.b, W_len, wrap64, if_pos, decide_eq_true_eq, l1Bit_ev hw _ hl, Ev.iteI, Bool.not_eq_true', decide_eq_false_iff_not, e, kk, Ev.s0 Kx, Ev.s1 Kr]
   cases bit ws k <;> simp
theorem top_last {w : Int} {ws : List Nat} (hw : Below 18446744073709551616 ws) (h1 : 1 <= w) (h2 : (ws.length : Int) = (w + 63) / 64) (hr : w % 64 ≠ 0) :
  ws.getD (ws.length - 1) 0 >>> (w % 64).toNat = 0 ↔ ∀ i : Nat, w <= i -> bit ws i = false := by
 constructor
 ·intro h i hi
  by_cases ho : 64 * ws.length <= i
  ·exact bit_out ho
  ·have e1 : i / 64 = ws.length - 1 := by omega
   have := congrArg (fun y => Nat.testBit y (i % 64 - (w % 64).toNat)) h
   simp only [Nat.testBit_shiftRight, Nat.zero_testBit] at this
   rw [show (w % 64).toNat + (i % 64 - (w % 64).toNat) = i % 64 from by omega] at this
   rw [bit, e1]; exact this
 ·intro h
  apply Nat.eq_of_testBit_eq
  intro j
  rw [Nat.testBit_shiftRight, Nat.zero_testBit]
  by_cases hj : (w % 64).toNat + j < 64
  ·have := h (64 * (ws.length - 1) + ((w % 64).toNat + j)) (by omega)
   rw [bit, show (64 * (ws.length - 1) + ((w % 64).toNat + j)) / 64 = ws.length - 1 from by omega, show (64 * (ws.length - 1) + ((w % 64).toNat + j)) % 64 = (w % 64).toNat + j from by omega] at this
   exact this
  ·exact Nat.testBit_lt_two_pow (Nat.lt_of_lt_of_le (hw.getD (by decide) _) (Nat.pow_le_pow_right (n := 2) (by decide) (Nat.not_lt.mp hj)))
theorem bitsOk_W {w : Int} {ws : List Nat} (hw : Below 18446744073709551616 ws) : bitsOk w (W ws) = true ↔ 1 <= w /\ w <= 4096 /\ (ws.length : Int) = (w + 63) / 64 /\ ∀ i : Nat, w <= i -> bit ws i = false := by
 rw [bitsOk, decide_eq_true_eq, W_len, W_rd]
 refine ⟨fun ⟨h1, h2, h3, h4⟩ => ⟨h1, h2, h3, ?_⟩, fun ⟨h1, h2, h3, h4⟩ => ⟨h1, h2, h3, ?_⟩⟩
 ·by_cases h5 : w % 64 = 0
  ·exact fun i hi => bit_out (by omega)
  ·rcases h4 with h4 | h4
   ·exact absurd h4 h5
   ·rw [<- top_last hw h1 h3 h5, Nat.shiftRight_eq_div_pow]
    exact_mod_cast h4
 ·by_cases h5 : w % 64 = 0
  ·exact Or.inl h5
  ·have := (top_last hw h1 h3 h5).2 h4
   rw [Nat.shiftRight_eq_div_pow] at this
   exact Or.inr (by exact_mod_cast this)
theorem Wd.of {l : List Int} (h : Wd l) : ∃ ws, l = W ws /\ Below 18446744073709551616 ws := W_of fun x hx => ⟨(h x hx).1, by have := (h x hx).2; omega⟩
theorem specOk_ev {w : Int} {l : List Int} (hw : Wd l) (R : Nat -> Bool -> Prop) : Ev (fun n => Z52.c n w l (R n)) ↔ Ev (fun n => R n (bitsOk w l)) := by
 obtain ⟨ws, rfl, hB⟩ := hw.of
 have hiff := bitsOk_W (w := w) hB
 refine Ev.suc.trans ?_
 simp (disch := omega) only [Z52.c, Z52.w, l1In_ev, Ev.iteI, Bool.not_eq_false', Bool.not_eq_true', decide_eq_true_eq, decide_eq_false_iff_not, W_len]
 by_cases h1 : 1 <= w /\ w <= 4096
 ·rw [if_pos h1, wrap64 (x := w + 63) (by omega) (by omega), tdivP (by omega), wrap64 (by omega) (by omega)]
  by_cases h2 : (ws.length : Int) = (w + 63) / 64
  ·obtain ⟨b, hb, kk⟩ := specOk_lp hB (by omega) (w := w) (64 * ws.length - w.toNat) w.toNat (by omega)
   have e : ((w.toNat : Nat) : Int) = w := by omega
   rw [e] at kk
   rw [if_neg (by omega), kk, Ev.s1 R, Ev.s1 R]
   have : b = bitsOk w (W ws) := by
    rw [Bool.eq_iff_iff, hb, hiff]
    exact ⟨fun h => ⟨h1.1, h1.2, h2, fun i hi => h i (by omega)⟩, fun h i hi => h.2.2.2 i (by omega)⟩
   rw [<- this]
   cases b <;> rfl
  ·rw [if_pos h2, Ev.s1 R]
   have : bitsOk w (W ws) = false := by
    rw [Bool.eq_false_iff]; intro h; exact h2 (hiff.1 h).2.2.1
   rw [this]
 ·rw [if_neg h1, Ev.s1 R]
  have : bitsOk w (W ws) = false := by
   rw [Bool.eq_false_iff]; intro h; exact h1 ⟨(hiff.1 h).1, (hiff.1 h).2.1⟩
  rw [this]
theorem implOk_ev {w : Int} {l : List Int} (R : Nat -> Bool -> Prop) : Ev (fun n => Z0.c n w l (R n)) ↔ Ev (fun n => R n (bitsOk w l)) := by
 refine Ev.suc.trans ?_
 simp only [Z0.c, Z0.w, inside_ev, Ev.iteI, Ev.andI, Bool.not_eq_false', Bool.not_eq_true', decide_eq_true_eq, decide_eq_false_iff_not, Ev.s1 R, and_self]
 by_cases h1 : 1 <= w /\ w <= 4096
 ·rw [if_pos h1]
  simp (disch := omega) only [wordsFor_ev, Ev.iteI, Bool.not_eq_true', decide_eq_false_iff_not, Ev.s1 R]
  by_cases h2 : (l.length : Int) = (w + 63) / 64
  ·rw [if_neg (by omega)]
   simp (disch := omega) only [Z0.j0, tmodP, Ev.iteI, decide_eq_false_iff_not, wrap64, grd_dec2, grd_dec, Ev.s1 R]
   by_cases h3 : w % 64 = 0
   ·rw [if_neg (by omega), show bitsOk w l = true from by simp [bitsOk, h1, h2, h3]]
   ·rw [if_pos h3]
    refine ev_arg ?_
    have e1 : ((l.length : Int) - 1).toNat = l.length - 1 := by omega
    have e2 : Nat.min (w % 64).toNat 64 = (w % 64).toNat := Nat.min_eq_left (by omega)
    rw [e1, e2, fdivP (Int.le_of_lt (Int.pow_pos (by decide)))]
    simp [bitsOk, h1, h2, h3]
  ·rw [if_pos h2, show bitsOk w l = false from by simp [bitsOk, h2]]
 ·rw [if_neg h1, show bitsOk w l = false from by
   rw [Bool.eq_false_iff]; intro h; rw [bitsOk, decide_eq_true_eq] at h; exact h1 ⟨h.1, h.2.1⟩]
end Go.Vsi
end

section
set_option linter.unusedVariables false
set_option linter.unusedSimpArgs false
set_option synthInstance.maxSize 4096
namespace Go.Vsi
theorem getD_cons {l ys : List UInt8} {x : Int} {y : UInt8} (h : l.drop x.toNat = y :: ys) (h0 : 0 <= x) : x < (l.length : Int) /\ List.getD l x.toNat 0 = y /\ l.drop (x + 1).toNat = ys :=
 drop_cons h h0
def chOk (c : UInt8) : Bool := decide ((97 <= (c.toNat : Int) /\ (c.toNat : Int) <= 122) \/ (48 <= (c.toNat : Int) /\ (c.toNat : Int) <= 57))
def nameOk (s : List UInt8) : Bool := decide (1 <= s.length /\ s.length <= 12 /\ 97 <= ((List.getD s 0 0).toNat : Int) /\ ((List.getD s 0 0).toNat : Int) <= 122) && s.all chOk
theorem nameOk_lp {s : List UInt8} (hl : s.length <= 1099511627776) : ∀ (ys : List UInt8) (x : Int), s.drop x.toNat = ys -> 0 <= x -> ∀ (Kx : Nat -> Prop) (Kr : Nat -> Bool -> Prop),
  (Ev (fun n => Z10.l4 n s x (Kx n) (Kr n)) ↔ if ys.all chOk = true then Ev Kx else Ev (fun n => Kr n false))
 | [], x, h, h0, Kx, Kr => by
  have := drop_nil h h0
  refine Ev.suc.trans ?_
  simp (disch := omega) only [Z10.l4, Z10.l4.b, if_neg, decide_eq_true_eq, Ev.s0 Kx, List.all_nil, if_true]
 | y :: ys, x, h, h0, Kx, Kr => by
  obtain ⟨e1, e2, e3⟩ := getD_cons h h0
  refine Ev.suc.trans ?_
  simp (disch := omega) only [Z10.l4, Z10.l4.b, if_pos, decide_eq_true_eq, decide_eq_false_iff_not, grd_dec2, e2, wrap64, Ev.iteI, nameOk_lp hl ys (x + 1) e3, Ev.s0 Kx, Ev.s1 Kr, List.all_cons, Bool.and_eq_true]
  simp only [chOk, decide_eq_true_eq]
  (repeat' split) <;> first | rfl | (exfalso; omega) | (exfalso; simp_all; omega) | (simp_all; done)
theorem nameOk_ev {s : List UInt8} (R : Nat -> Bool -> Prop) : Ev (fun n => Z10.c n s (R n)) ↔ Ev (fun n => R n (nameOk s)) := by
 refine Ev.suc.trans ?_
 simp only [Z10.c, Z10.w, Ev.iteI, decide_eq_true_eq, decide_eq_false_iff_not, nameOk]
 by_cases h1 : 1 <= s.length /\ s.length <= 12
 ·rw [if_pos (by omega), if_pos (by omega)]
  simp (disch := omega) only [grd_dec, Ev.iteI, nameOk_lp (by omega) s 0 rfl, Ev.s1 R, decide_eq_false_iff_not, decide_eq_true_eq]
  by_cases h2 : 97 <= ((List.getD s 0 0).toNat : Int) /\ ((List.getD s 0 0).toNat : Int) <= 122
  ·rw [if_pos (by omega), if_neg (by omega)]
   rw [show (decide (1 <= s.length /\ s.length <= 12 /\ 97 <= ((List.getD s 0 0).toNat : Int) /\ ((List.getD s 0 0).toNat : Int) <= 122)) = true from by rw [decide_eq_true_eq]; omega, Bool.true_and]
   exact ev_bool
  ·rw [show (decide (1 <= s.length /\ s.length <= 12 /\ 97 <= ((List.getD s 0 0).toNat : Int) /\ ((List.getD s 0 0).toNat : Int) <= 122)) = false from by rw [decide_eq_false_iff_not]; omega, Bool.false_and]
   split <;> (try split) <;> first | rfl | (exfalso; omega)
 ·rw [show (decide (1 <= s.length /\ s.length <= 12 /\ 97 <= ((List.getD s 0 0).toNat : Int) /\ ((List.getD s 0 0).toNat : Int) <= 122)) = false from by rw [decide_eq_false_iff_not]; omega, Bool.false_and, Ev.s1 R]
  split <;> (try split) <;> first | rfl | (exfalso; omega)
theorem l1Digit_ev {a : Int} (R : Nat -> Bool -> Prop) : Ev (fun n => Z59.c n a (R n)) ↔ Ev (fun n => R n (decide (48 <= a /\ a <= 57))) := by
 refine Ev.suc.trans ?_
 simp only [Z59.c, Z59.w, Ev.iteI, decide_eq_true_eq, Ev.s1 R, ge_iff_le]
 split
 ·refine ev_arg ?_; rw [decide_eq_decide]; omega
 ·refine ev_arg ?_; symm; rw [decide_eq_false_iff_not]; omega
theorem l1Name_lp {s : List UInt8} (hl : s.length <= 1099511627776) : ∀ (ys : List UInt8) (x : Int), s.drop x.toNat = ys -> 0 <= x -> ∀ (Kx : Nat -> Prop) (Kr : Nat -> Bool -> Prop),
  (Ev (fun n => Z62.l4 n s x (Kx n) (Kr n)) ↔ if ys.all chOk = true then Ev Kx else Ev (fun n => Kr n false))
 | [], x, h, h0, Kx, Kr => by
  have := drop_nil h h0
  refine Ev.suc.trans ?_
  simp (disch := omega) only [Z62.l4, Z62.l4.b, if_neg, decide_eq_true_eq, Ev.s0 Kx, List.all_nil, if_true]
 | y :: ys, x, h, h0, Kx, Kr => by
  obtain ⟨e1, e2, e3⟩ := getD_cons h h0
  refine Ev.suc.trans ?_
  simp (disch := omega) only [Z62.l4, Z62.l4.b, if_pos, decide_eq_true_eq, decide_eq_false_iff_not, Bool.not_eq_true', grd_dec2, e2, wrap64, l1Digit_ev, Ev.iteI, l1Name_lp hl ys (x + 1) e3, Ev.s0 Kx, Ev.s1 Kr, List.all_cons, Bool.and_eq_true]
  simp only [chOk, decide_eq_true_eq]
  (repeat' split) <;> first | rfl | (exfalso; omega) | (exfalso; simp_all; omega) | (simp_all; done)
theorem l1Name_ev {s : List UInt8} (R : Nat -> Bool -> Prop) : Ev (fun n => Z62.c n s (R n)) ↔ Ev (fun n => R n (nameOk s)) := by
 refine Ev.suc.trans ?_
 simp only [Z62.c, Z62.w, Ev.iteI, decide_eq_true_eq, decide_eq_false_iff_not, nameOk]
 by_cases h1 : 1 <= s.length /\ s.length <= 12
 ·rw [if_pos (by omega), if_pos (by omega)]
  simp (disch := omega) only [grd_dec, l1Digit_ev, Ev.iteI, l1Name_lp (by omega) s 0 rfl, Ev.s1 R, decide_eq_false_iff_not, decide_eq_true_eq]
  match s, h1 with
  | c :: r, h1 =>
   have e : (List.getD (c :: r) 0 0) = c := rfl
   rw [e]
   by_cases h2 : 48 <= (c.toNat : Int) /\ (c.toNat : Int) <= 57
   ·rw [if_pos h2, show (decide (1 <= (c :: r).length /\ (c :: r).length <= 12 /\ 97 <= (c.toNat : Int) /\ (c.toNat : Int) <= 122)) = false from by rw [decide_eq_false_iff_not]; omega, Bool.false_and]
   ·rw [if_neg h2]
    by_cases h3 : chOk c = true
    ·have : 97 <= (c.toNat : Int) /\ (c.toNat : Int) <= 122 := by
      rw [chOk, decide_eq_true_eq] at h3; omega
     rw [show (decide (1 <= (c :: r).length /\ (c :: r).length <= 12 /\ 97 <= (c.toNat : Int) /\ (c.toNat : Int) <= 122)) = true from by rw [decide_eq_true_eq]; omega, Bool.true_and]
     exact ev_bool
    ·rw [List.all_cons, if_neg (by simp [h3]), show chOk c = false from by simpa using h3, Bool.false_and, Bool.and_false]
  | [], h1 => simp at h1
 ·rw [show (decide (1 <= s.length /\ s.length <= 12 /\ 97 <= ((List.getD s 0 0).toNat : Int) /\ ((List.getD s 0 0).toNat : Int) <= 122)) = false from by rw [decide_eq_false_iff_not]; omega, Bool.false_and, Ev.s1 R]
  split <;> (try split) <;> first | rfl | (exfalso; omega)
theorem declared1_ev {a : List UInt8} {b : Int} {z : List UInt8} (R : Nat -> Bool -> Prop) : Ev (fun n => Z8.c n a b z (R n)) ↔ Ev (fun n => R n (decide (a = z))) := by
 refine Ev.suc.trans ?_
 simp only [Z8.c, Z8.w, Ev.s1 R]
 refine ev_arg ?_
 rw [Bool.eq_iff_iff]; simp
theorem Z48_lp {l : List tDecl} {z : List UInt8} (hl : l.length <= 1099511627776) : ∀ (ys : List tDecl) (x : Int), l.drop x.toNat = ys -> 0 <= x ->
  ∀ (Kx : Nat -> Prop) (Kr : Nat -> Int -> Prop),
  (Ev (fun n => Z48.l2 n l z l.length x (Kx n) (Kr n)) ↔ if firstIx (fun y => decide (y.1 = z)) ys x < 0 then Ev Kx else Ev (fun n => Kr n (firstIx (fun y => decide (y.1 = z)) ys x)))
 | [], x, h, h0, Kx, Kr => by
  have := drop_nil h h0
  rw [firstIx, if_pos (by decide)]
  refine Ev.suc.trans ?_
  simp (disch := omega) only [Z48.l2, Z48.l2.b, if_neg, decide_eq_true_eq, Ev.s0 Kx]
 | y :: ys, x, h, h0, Kx, Kr => by
  obtain ⟨e1, e2, e3⟩ := drop_cons h h0
  refine Ev.suc.trans ?_
  simp (disch := first | omega | omega) only [Z48.l2, Z48.l2.b, if_pos, decide_eq_true_eq, grd_dec2, e2, wrap64, Ev.s1 Kr, declared1_ev, Ev.iteI]
  rw [Z48_lp hl ys (x + 1) e3 (by omega), Ev.s0 Kx, Ev.s1 Kr]
  simp only [firstIx, decide_eq_true_eq]
  split
  ·rw [if_neg (by omega)]
  ·rfl
theorem Z48_ev {l : List tDecl} {z : List UInt8} (hl : l.length <= 1099511627776) (R : Nat -> Int -> Prop) :
  Ev (fun n => Z48.c n l z (R n)) ↔ Ev (fun n => R n (firstIx (fun y => decide (y.1 = z)) l 0)) := by
 refine Ev.suc.trans ?_
 simp only [Z48.c, Z48.w]
 rw [Z48_lp hl l 0 rfl (by omega), Ev.s1 R, Ev.s1 R]
 split
 ·rw [firstIx_neg (by omega) ‹_›]
 ·rfl
theorem declared_ev {l : List tDecl} {z : List UInt8} (hl : l.length <= 1099511627776) (R : Nat -> Int -> Prop) : Ev (fun n => Z7.c n l z (R n)) ↔ Ev (fun n => R n (firstIx (fun y => decide (y.1 = z)) l 0)) := by
 refine Ev.suc.trans ?_
 simp only [Z7.c, Z7.w]
 rw [Z48_ev hl, Ev.s1 R]
def declsGo : List tDecl -> List tDecl -> Int -> Bool
 | _, [], t => decide (t <= 20000)
 | pre, y :: r, t => nameOk y.1 && decide (1 <= y.2 /\ y.2 <= 4096) && !(pre.any fun z => decide (z.1 = y.1)) && declsGo (pre ++ [y]) r (t + y.2)
def declsOk (l : List tDecl) : Bool := decide (l.length <= 60) && declsGo [] l 0
theorem take_succ {α : Type} {l ys : List α} {x : Int} {y : α} (h : l.drop x.toNat = y :: ys) (h0 : 0 <= x) : l.take (x + 1).toNat = l.take x.toNat ++ [y] := by
 have hl : x.toNat < l.length := by
  rcases Nat.lt_or_ge x.toNat l.length with h' | h'
  ·exact h'
  ·rw [List.drop_eq_nil_of_le h'] at h; cases h
 rw [show (x + 1).toNat = x.toNat + 1 from by omega, List.take_succ_eq_append_getElem hl]
 congr 2
 have := List.getElem?_drop (xs := l) (i := x.toNat) (j := 0)
 rw [h] at this
 simp only [List.getElem?_cons_zero, Nat.add_zero, List.getElem?_eq_getElem hl, Option.some.injEq] at this
 exact this.symm
theorem declsOk_lp {l : List tDecl} (hl : l.length <= 60) : ∀ (ys : List tDecl) (x t : Int), l.drop x.toNat = ys -> 0 <= x -> 0 <= t -> t <= 4096 * x -> ∀ (R : Nat -> Bool -> Prop),
  (Ev (fun n => Z1.l5 n l l l.length t x (fun y => R n (decide (y <= 20000))) (R n)) ↔ Ev (fun n => R n (declsGo (l.take x.toNat) ys t)))
 | [], x, t, h, h0, ht, ht', R => by
  have := drop_nil h h0
  refine Ev.suc.trans ?_
  simp (disch := omega) only [Z1.l5, Z1.l5.b, if_neg, decide_eq_true_eq, Ev.s1 R, declsGo]
 | y :: ys, x, t, h, h0, ht, ht', R => by
  obtain ⟨e1, e2, e3⟩ := drop_cons h h0
  refine Ev.suc.trans ?_
  have hd : (List.drop 0 (List.take x.toNat l)).length <= 1099511627776 := by simp; omega
  simp (disch := omega) only [Z1.l5, Z1.l5.b, if_pos, decide_eq_true_eq, grd_dec2, e2, nameOk_ev, inside_ev, Ev.iteI, Bool.not_eq_false', Ev.s1 R, declsGo]
  by_cases h1 : nameOk y.1 = true
  ·by_cases h2 : 1 <= y.2 /\ y.2 <= 4096
   ·rw [if_pos h1, if_pos h2]
    simp (disch := omega) only [grd_dec3, declared_ev hd, Ev.iteI, wrap64, ge_iff_le]
    rw [declsOk_lp hl ys (x + 1) (t + y.2) e3 (by omega) (by omega) (by omega), Ev.s1 R, Ev.s1 R, take_succ h h0]
    have e := firstIx_any (p := fun z : tDecl => decide (z.1 = y.1)) (l := List.take x.toNat l) (x := 0) (by omega)
    rw [List.drop_zero]
    by_cases h3 : 0 <= firstIx (fun z : tDecl => decide (z.1 = y.1)) (List.take x.toNat l) 0
    ·rw [if_pos h3, <- e]; simp [h1, h2, h3]
    ·rw [if_neg h3, <- e]; simp [h1, h2, h3]
   ·rw [if_pos h1, if_neg h2]; simp [h1, h2]
  ·rw [if_neg h1]; simp [h1]
theorem declsOk_ev {l : List tDecl} (R : Nat -> Bool -> Prop) : Ev (fun n => Z1.c n l (R n)) ↔ Ev (fun n => R n (declsOk l)) := by
 refine Ev.suc.trans ?_
 simp only [Z1.c, Z1.w, Ev.iteI, decide_eq_true_eq, declsOk]
 by_cases h : l.length <= 60
 ·rw [if_neg (by omega), declsOk_lp h l 0 0 rfl (by omega) (by omega) (by omega) (fun n => R (n + 1)), Ev.s1 R]
  simp [h]
 ·rw [if_pos (by omega), Ev.s1 R]; simp [h]
theorem declsOkS_in {l : List tDecl} {t i : Int} {y : tDecl} (hl : l.length <= 60) (hi : rd l i.toNat = y) (hi0 : 0 <= i) (hi1 : i < (l.length : Int)) : ∀ (m : Nat) (k : Int), k + m = i -> 0 <= k -> ∀ (Kx : Nat -> List tDecl -> Int -> Int -> Prop) (Kr : Nat -> Bool -> Prop),
  (Ev (fun n => Z53.l10 n l t i k (Kx n) (Kr n)) ↔ if (((l.take i.toNat).drop k.toNat).any fun z => decide (z.1 = y.1)) = true then Ev (fun n => Kr n false) else Ev (fun n => Kx n l t i))
 | 0, k, h, h0, Kx, Kr => by
  refine Ev.suc.trans ?_
  simp (disch := omega) only [Z53.l10, Z53.l10.b, if_neg, decide_eq_true_eq, Ev.s3 Kx]
  rw [List.drop_eq_nil_of_le (by simp; omega)]
  simp
 | m + 1, k, h, h0, Kx, Kr => by
  refine Ev.suc.trans ?_
  have e : (l.take i.toNat).drop k.toNat = rd l k.toNat :: (l.take i.toNat).drop (k + 1).toNat := by
   have hk : k.toNat < (l.take i.toNat).length := by simp; omega
   rw [List.drop_eq_getElem_cons hk, show (k + 1).toNat = k.toNat + 1 from by omega]
   congr 1
   rw [List.getElem_take, rd, List.getD_eq_getElem?_getD, List.getElem?_eq_getElem (by omega)]; rfl
  simp (disch := omega) only [Z53.l10, Z53.l10.b, if_pos, decide_eq_true_eq, grd_dec2, hi, wrap64, Ev.iteI, beq_iff_eq, Ev.s1 Kr, e, List.any_cons, Bool.or_eq_true]
  rw [declsOkS_in hl hi hi0 hi1 m (k + 1) (by omega) (by omega), Ev.s1 Kr, Ev.s3 Kx]
  (repeat' split) <;> first | rfl | (exfalso; simp_all; done)
theorem declsOkS_lp {l : List tDecl} (hl : l.length <= 60) : ∀ (ys : List tDecl) (x t : Int), l.drop x.toNat = ys -> 0 <= x -> 0 <= t -> t <= 4096 * x -> ∀ (R : Nat -> Bool -> Prop),
  (Ev (fun n => Z53.l5 n l t x (fun y => R n (decide (y <= 20000))) (R n)) ↔ Ev (fun n => R n (declsGo (l.take x.toNat) ys t)))
 | [], x, t, h, h0, ht, ht', R => by
  have := drop_nil h h0
  refine Ev.suc.trans ?_
  simp (disch := omega) only [Z53.l5, Z53.l5.b, if_neg, decide_eq_true_eq, Ev.s1 R, declsGo]
 | y :: ys, x, t, h, h0, ht, ht', R => by
  obtain ⟨e1, e2, e3⟩ := drop_cons h h0
  refine Ev.suc.trans ?_
  simp (disch := omega) only [Z53.l5, Z53.l5.b, if_pos, decide_eq_true_eq, grd_dec2, e2, l1Name_ev, l1In_ev, Ev.iteI, Bool.not_eq_false', Bool.not_eq_true', decide_eq_false_iff_not, Ev.s1 R, declsGo, Z53.j3]
  by_cases h1 : nameOk y.1 = true
  ·by_cases h2 : 1 <= y.2 /\ y.2 <= 4096
   ·rw [if_pos h1, if_neg (by omega), declsOkS_in hl e2 h0 e1 x.toNat 0 (by omega) (by omega), Ev.s1 R]
    simp (disch := omega) only [grd_dec2, e2, wrap64]
    rw [declsOkS_lp hl ys (x + 1) (t + y.2) e3 (by omega) (by omega) (by omega) (fun n => R (n + 1)), Ev.s1 R, take_succ h h0, show (0 : Int).toNat = 0 from rfl, List.drop_zero]
    split
    ·rename_i h3; simp [h1, h2, h3]
    ·rename_i h3; simp only [Bool.not_eq_true] at h3; simp [h1, h2, h3]
   ·rw [if_pos h1, if_pos h2]; simp [h1, h2]
  ·rw [if_neg h1]; simp [h1]
theorem declsOkS_ev {l : List tDecl} (R : Nat -> Bool -> Prop) : Ev (fun n => Z53.c n l (R n)) ↔ Ev (fun n => R n (declsOk l)) := by
 refine Ev.suc.trans ?_
 simp only [Z53.c, Z53.w, Ev.iteI, decide_eq_true_eq, declsOk]
 by_cases h : l.length <= 60
 ·rw [if_neg (by omega), declsOkS_lp h l 0 0 rfl (by omega) (by omega) (by omega) (fun n => R (n + 1)), Ev.s1 R]
  simp [h]
 ·rw [if_pos (by omega), Ev.s1 R]; simp [h]
end Go.Vsi
end

section
set_option linter.unusedVariables false
set_option linter.unusedSimpArgs false
set_option synthInstance.maxSize 4096
namespace Go.Vsi
def nodeW (d : List tDecl) (x : tTNode) (kw : List Int) : Int :=
 if x.1 = 1 /\ kw.length = 0 /\ 0 <= x.2.1 /\ x.2.1 <= (d.length : Int) - 1 then (rd d x.2.1.toNat).2
 else if x.1 = 2 /\ kw.length = 0 /\ bitsOk x.2.2.2.2.1 x.2.2.2.2.2.1 = true then x.2.2.2.2.1
 else if x.1 = 3 /\ 1 < kw.length then kw.sum
 else if kw.length ≠ 1 then -1
 else if x.1 = 4 /\ 0 <= x.2.2.2.1 /\ x.2.2.2.1 <= x.2.2.1 /\ x.2.2.1 < rd kw 0 then x.2.2.1 - x.2.2.2.1 + 1
 else if (x.1 = 5 \/ x.1 = 6) /\ 0 <= x.2.2.1 /\ x.2.2.1 <= 4096 then rd kw 0 + x.2.2.1
 else if (x.1 = 7 \/ x.1 = 8) /\ 0 <= x.2.2.1 /\ x.2.2.1 <= 4096 then rd kw 0
 else if x.1 = 9 /\ 1 <= x.2.2.1 /\ x.2.2.1 <= 4096 then rd kw 0 * x.2.2.1
 else -1
theorem mulB {a b : Int} (h1 : 0 <= a) (h2 : a <= 8192) (h3 : 0 <= b) (h4 : b <= 4096) : 0 <= a * b /\ a * b <= 33554432 :=
 ⟨Int.mul_nonneg h1 h3, Int.le_trans (Int.mul_le_mul h2 h4 h3 (by decide)) (by decide)⟩
theorem width_lp {kw : List Int} (hl : kw.length <= 4096) (hk : ∀ w ∈ kw, 0 <= w /\ w <= 4096) : ∀ (ys : List Int) (x s : Int), kw.drop x.toNat = ys -> 0 <= x -> 0 <= s -> s <= 4096 * x -> ∀ (Kx : Nat -> Int -> Prop),
  (Ev (fun n => Z5.l11 n kw kw.length s x (Kx n)) ↔ Ev (fun n => Kx n (s + ys.sum)))
 | [], x, s, h, h0, hs, hs', Kx => by
  have := drop_nil h h0
  refine Ev.suc.trans ?_
  simp (disch := omega) only [Z5.l11, Z5.l11.b, if_neg, decide_eq_true_eq, Ev.s1 Kx, List.sum_nil, Int.add_zero]
 | y :: ys, x, s, h, h0, hs, hs', Kx => by
  obtain ⟨e1, e2, e3⟩ := drop_cons h h0
  have hy : y ∈ kw := by
   have : y ∈ kw.drop x.toNat := by rw [h]; exact List.mem_cons_self
   exact List.mem_of_mem_drop this
  have hy' := hk y hy
  refine Ev.suc.trans ?_
  simp (disch := omega) only [Z5.l11, Z5.l11.b, if_pos, decide_eq_true_eq, grd_dec2, e2, wrap64]
  rw [width_lp hl hk ys (x + 1) (s + y) e3 (by omega) (by omega) (by omega), Ev.s1 Kx]
  refine ev_arg ?_
  rw [List.sum_cons]; omega
theorem width_q21 {x : tTNode} {f : Int} {b : Bool} (K : Nat -> Int -> Prop) (S : Nat -> Prop) :
  Ev (fun n => Z5.q21 n x f b (K n) (S n)) ↔ if b = true then Ev (fun n => K n (IntKind.wrap .i64 (f + x.2.2.1))) else
   if (x.1 = 7 \/ x.1 = 8) /\ 0 <= x.2.2.1 /\ x.2.2.1 <= 4096 then Ev (fun n => K n f) else if x.1 = 9 /\ 1 <= x.2.2.1 /\ x.2.2.1 <= 4096 then Ev (fun n => K n (IntKind.wrap .i64 (f * x.2.2.1))) else Ev S := by
 refine Ev.suc.trans ?_
 simp only [Z5.q21, Z5.q21.b, Z5.j0, inside_ev, Ev.iteI, decide_eq_true_eq, decide_eq_false_iff_not, Ev.s1 K, Ev.s0 S, Bool.false_eq_true, if_false]
 (repeat' split) <;> first | rfl | (exfalso; omega)
theorem width_q9 {x : tTNode} {kw : List Int} {b : Bool} (hl : kw.length <= 4096) (hk : ∀ w ∈ kw, 0 <= w /\ w <= 4096) (hb : b = true ↔ x.1 = 3 /\ 1 < kw.length) (K : Nat -> Int -> Prop) (S : Nat -> Prop) :
  Ev (fun n => Z5.q9 n x kw (rd kw 0) b (K n) (S n)) ↔ if x.1 = 3 /\ 1 < kw.length then Ev (fun n => K n kw.sum) else if kw.length ≠ 1 then Ev (fun n => K n (-1)) else
   if x.1 = 4 /\ 0 <= x.2.2.2.1 /\ x.2.2.2.1 <= x.2.2.1 /\ x.2.2.1 < rd kw 0 then Ev (fun n => K n (x.2.2.1 - x.2.2.2.1 + 1))
   else if (x.1 = 5 \/ x.1 = 6) /\ 0 <= x.2.2.1 /\ x.2.2.1 <= 4096 then Ev (fun n => K n (rd kw 0 + x.2.2.1))
   else if (x.1 = 7 \/ x.1 = 8) /\ 0 <= x.2.2.1 /\ x.2.2.1 <= 4096 then Ev (fun n => K n (rd kw 0))
   else if x.1 = 9 /\ 1 <= x.2.2.1 /\ x.2.2.1 <= 4096 then Ev (fun n => K n (rd kw 0 * x.2.2.1)) else Ev S := by
 refine Ev.suc.trans ?_
 simp only [Z5.q9, Z5.q9.b, Z5.j1, Ev.iteI, hb]
 by_cases h3 : x.1 = 3 /\ 1 < kw.length
 ·rw [if_pos h3, if_pos h3, width_lp hl hk kw 0 0 rfl (by omega) (by omega) (by omega), Ev.s1 K, Int.zero_add]
 rw [if_neg h3, if_neg h3]
 by_cases h1 : kw.length = 1
 ·have hf : 0 <= rd kw 0 /\ rd kw 0 <= 4096 := by
   match kw, h1, hk with
   | [w], _, hk => exact hk w List.mem_cons_self
  have h1' : (kw.length : Int) = 1 := by omega
  rw [if_neg (c := kw.length ≠ 1) (by omega)]
  simp only [h1', decide_true, Bool.not_true, Bool.false_eq_true, if_false]
  simp only [width_q21, inside_ev, Ev.iteI, decide_eq_true_eq, decide_eq_false_iff_not, Ev.s1 K, Ev.s0 S, Bool.false_eq_true, if_false, ge_iff_le]
  by_cases h4 : x.1 = 4
  ·simp only [h4, true_and, if_true, show ¬ (4 : Int) = 5 from by decide, show ¬ (4 : Int) = 6 from by decide, show ¬ (4 : Int) = 7 from by decide, show ¬ (4 : Int) = 8 from by decide, show ¬ (4 : Int) = 9 from by decide, or_self, false_and, if_false, not_false_eq_true]
   by_cases g1 : 0 <= x.2.2.2.1
   ·by_cases g2 : x.2.2.2.1 <= x.2.2.1
    ·by_cases g3 : x.2.2.1 < rd kw 0
     ·simp (disch := omega) only [g1, g2, g3, and_self, if_true, wrap64, decide_true]
     ·simp only [g1, g2, g3, and_false, if_true, if_false, decide_false, Bool.false_eq_true]
    ·simp only [g1, g2, false_and, and_false, if_true, if_false]
   ·simp only [g1, false_and, if_false]
  ·simp only [h4, false_and, if_false]
   by_cases h5 : (x.1 = 5 \/ x.1 = 6) /\ 0 <= x.2.2.1 /\ x.2.2.1 <= 4096
   ·have e : IntKind.wrap .i64 (rd kw 0 + x.2.2.1) = rd kw 0 + x.2.2.1 := wrap64 (by omega) (by omega)
    rw [if_pos h5, e]
    rcases h5 with ⟨h5 | h5, h6⟩
    ·simp only [h5, h6, not_true, if_false, if_true, and_self]
    ·simp only [h5, h6, show ¬ (6 : Int) = 5 from by decide, not_false_eq_true, if_true, and_self]
   ·rw [if_neg h5]
    have e : 1 <= x.2.2.1 /\ x.2.2.1 <= 4096 -> IntKind.wrap .i64 (rd kw 0 * x.2.2.1) = rd kw 0 * x.2.2.1 := fun h => by
     have := mulB hf.1 (by omega) (show 0 <= x.2.2.1 by omega) h.2
     exact wrap64 (by omega) (by omega)
    (repeat' split) <;> first | rfl | (exfalso; omega) | (exfalso; simp_all; done) | (rw [e (by omega)])
 ·have h1' : ¬ (kw.length : Int) = 1 := by omega
  simp only [h1, h1', ne_eq, not_false_eq_true, if_true, decide_false, Bool.not_false, Ev.s1 K]
theorem width_q5 {x : tTNode} {d : List tDecl} {kw : List Int} {b : Bool} (hl : kw.length <= 4096) (hk : ∀ w ∈ kw, 0 <= w /\ w <= 4096) (hb : b = true ↔ x.1 = 1 /\ kw.length = 0 /\ 0 <= x.2.1 /\ x.2.1 <= (d.length : Int) - 1) (R : Nat -> Int -> Prop) :
  Ev (fun n => Z5.q5 n x d kw (rd kw 0) b (R n) (R n (-1))) ↔ Ev (fun n => R n (nodeW d x kw)) := by
 refine Ev.suc.trans ?_
 simp only [Z5.q5, Z5.q5.b, Z5.j2, Ev.iteI, nodeW]
 by_cases h1 : x.1 = 1 /\ kw.length = 0 /\ 0 <= x.2.1 /\ x.2.1 <= (d.length : Int) - 1
 ·simp (disch := omega) only [hb.2 h1, if_true, grd_dec2, Ev.s1 R]
  rw [if_pos h1]
 have hb' : ¬ b = true := fun h => h1 (hb.1 h)
 rw [if_neg hb', if_neg h1]
 have q9 : ∀ (c : Bool), (c = true ↔ x.1 = 3 /\ 1 < kw.length) -> ((Ev fun n => Z5.q9 n x kw (rd kw 0) c (R (n + 1)) (R (n + 1) (-1))) ↔ Ev (fun n => R n (if x.1 = 3 /\ 1 < kw.length then kw.sum
   else if kw.length ≠ 1 then -1
   else if x.1 = 4 /\ 0 <= x.2.2.2.1 /\ x.2.2.2.1 <= x.2.2.1 /\ x.2.2.1 < rd kw 0 then x.2.2.1 - x.2.2.2.1 + 1
   else if (x.1 = 5 \/ x.1 = 6) /\ 0 <= x.2.2.1 /\ x.2.2.1 <= 4096 then rd kw 0 + x.2.2.1
   else if (x.1 = 7 \/ x.1 = 8) /\ 0 <= x.2.2.1 /\ x.2.2.1 <= 4096 then rd kw 0
   else if x.1 = 9 /\ 1 <= x.2.2.1 /\ x.2.2.1 <= 4096 then rd kw 0 * x.2.2.1
   else -1))) := fun c hc => by
  rw [width_q9 hl hk hc (fun n => R (n + 1)) (fun n => R (n + 1) (-1))]
  simp only [Ev.s1 R]
  (repeat' split) <;> first | rfl | (exfalso; omega)
 simp only [decide_eq_true_eq, Bool.false_eq_true, if_false, implOk_ev, Ev.iteI, Ev.s1 R]
 have f3 : ¬ (x.1 = 3 /\ 1 < kw.length) -> (false = true ↔ x.1 = 3 /\ 1 < kw.length) := fun h => iff_of_false Bool.false_ne_true h
 by_cases h2 : x.1 = 2
 ·have h3 : ¬ x.1 = 3 := by omega
  have h3' : ¬ (x.1 = 3 /\ 1 < kw.length) := by omega
  rw [if_pos h2]
  by_cases h4 : kw.length = 0
  ·have h4' : (kw.length : Int) = 0 := by omega
   rw [if_pos h4']
   by_cases h5 : bitsOk x.2.2.2.2.1 x.2.2.2.2.2.1 = true
   ·rw [if_pos h5, if_pos ⟨h2, h4, h5⟩]
   ·rw [if_neg h5, if_neg h3, q9 false (f3 h3'), if_neg (c := x.1 = 2 /\ kw.length = 0 /\ bitsOk x.2.2.2.2.1 x.2.2.2.2.2.1 = true) (fun h => h5 h.2.2)]
  ·have h4' : ¬ (kw.length : Int) = 0 := by omega
   rw [if_neg h4', if_neg h3, q9 false (f3 h3'), if_neg (c := x.1 = 2 /\ kw.length = 0 /\ bitsOk x.2.2.2.2.1 x.2.2.2.2.2.1 = true) (fun h => h4 h.2.1)]
 ·rw [if_neg h2, if_neg (c := x.1 = 2 /\ kw.length = 0 /\ bitsOk x.2.2.2.2.1 x.2.2.2.2.2.1 = true) (fun h => h2 h.1)]
  by_cases h3 : x.1 = 3
  ·rw [if_pos h3, q9 _ (by rw [decide_eq_true_eq]; omega)]
  ·rw [if_neg h3, q9 false (f3 (fun h => h3 h.1))]
theorem width_ev {x : tTNode} {d : List tDecl} {kw : List Int} (hd : d.length <= 1099511627776) (hl : kw.length <= 4096) (hk : ∀ w ∈ kw, 0 <= w /\ w <= 4096) (R : Nat -> Int -> Prop) :
  Ev (fun n => Z5.c n x d kw (R n)) ↔ Ev (fun n => R n (nodeW d x kw)) := by
 refine Ev.suc.trans ?_
 have key : ∀ (f : Int), f = rd kw 0 -> ((Ev fun n => Z5.j3 (R (n + 1)) x d kw (Z5.q5 n) n f) ↔ Ev (fun n => R n (nodeW d x kw))) := by
  rintro f rfl
  simp (disch := omega) only [Z5.j3, Ev.iteI, decide_eq_true_eq, inside_ev, wrap64]
  by_cases h1 : x.1 = 1
  ·by_cases h2 : (kw.length : Int) = 0
   ·rw [if_pos h1, if_pos h2, width_q5 hl hk (by rw [decide_eq_true_eq]; omega) (fun n => R (n + 1)), Ev.s1 R]
   ·rw [if_pos h1, if_neg h2, width_q5 hl hk (iff_of_false Bool.false_ne_true (by omega)) (fun n => R (n + 1)), Ev.s1 R]
  ·rw [if_neg h1, width_q5 hl hk (iff_of_false Bool.false_ne_true (by omega)) (fun n => R (n + 1)), Ev.s1 R]
 simp only [Z5.c, Z5.w, Ev.iteI, decide_eq_true_eq]
 by_cases h : (kw.length : Int) > 0
 ·rw [if_pos h]
  simp (disch := omega) only [grd_dec]
  exact key _ rfl
 ·rw [if_neg h]
  refine key 0 ?_
  match kw, h with
  | [], _ => rfl
  | _ :: _, h => simp at h
end Go.Vsi
end

section
set_option linter.unusedVariables false
set_option linter.unusedSimpArgs false
set_option synthInstance.maxSize 4096
namespace Go.Vsi
def plainB (x : tTNode) : Bool := decide (((4 <= x.1 /\ x.1 <= 9) \/ x.2.2.1 = 0) /\ (x.1 = 4 \/ x.2.2.2.1 = 0) /\ (x.1 = 1 \/ x.2.1 = 0) /\ (x.1 = 2 \/ (x.2.2.2.2.1 = 0 /\ x.2.2.2.2.2.1.length = 0)))
theorem plain_q3 {x : tTNode} {b : Bool} (R : Nat -> Bool -> Prop) (S : Nat -> tTNode -> Prop) :
  Ev (fun n => Z4.q3 n x b (R n) (S n)) ↔ if b = true then Ev (fun n => R n false) else Ev (fun n => S n x) := by
 refine Ev.suc.trans ?_
 simp only [Z4.q3, Z4.q3.b, Ev.iteI, Ev.s1 R, Ev.s1 S]
theorem plain_q2 {x : tTNode} {b : Bool} (hb : b = true ↔ (4 <= x.1 /\ x.1 <= 9)) (R : Nat -> Bool -> Prop) :
  Ev (fun n => Z4.q2 n x b (R n)) ↔ Ev (fun n => R n (plainB x)) := by
 refine Ev.suc.trans ?_
 have hb' : b = false ↔ ¬ (4 <= x.1 /\ x.1 <= 9) := by rw [<- hb]; simp
 simp only [Z4.q2, Z4.q2.b, Z4.j0, plain_q3, Ev.iteI, Ev.s1 R, Bool.not_eq_true', Bool.not_eq_false', decide_eq_true_eq, decide_eq_false_iff_not, Bool.false_eq_true, if_false, if_true, hb']
 (repeat' split) <;> first
  | (refine ev_arg ?_; symm; rw [plainB, decide_eq_false_iff_not]; omega)
  | (refine ev_arg ?_; symm; rw [plainB, decide_eq_true_eq]; omega)
  | (refine ev_arg ?_; rw [plainB, decide_eq_decide]; omega)
theorem plain_ev {x : tTNode} (R : Nat -> Bool -> Prop) : Ev (fun n => Z4.c n x (R n)) ↔ Ev (fun n => R n (plainB x)) := by
 refine Ev.suc.trans ?_
 simp only [Z4.c, Z4.w, Ev.iteI, decide_eq_true_eq, ge_iff_le]
 split
 ·rename_i h; rw [plain_q2 (by rw [decide_eq_true_eq]; omega) (fun n => R (n + 1)), Ev.s1 R]
 ·rename_i h; rw [plain_q2 (by simp; omega) (fun n => R (n + 1)), Ev.s1 R]
def kidsIn (i : Int) (ks : List Int) : Bool := ks.all fun k => decide (0 <= k /\ k <= i - 1)
theorem kidsIn_cons {i y : Int} {ys : List Int} : kidsIn i (y :: ys) = true ↔ (0 <= y /\ y <= i - 1) /\ kidsIn i ys = true := by
 rw [kidsIn, kidsIn, List.all_cons, Bool.and_eq_true, decide_eq_true_eq]
def kindB (d : List tDecl) (x : tTNode) : Bool := decide ((x.1 = 1 /\ x.2.2.2.2.2.2.length = 0 /\ 0 <= x.2.1 /\ x.2.1 <= (d.length : Int) - 1) \/ (x.1 = 2 /\ x.2.2.2.2.2.2.length = 0 /\ bitsOk x.2.2.2.2.1 x.2.2.2.2.2.1 = true) \/ (x.1 = 3 /\ 2 <= x.2.2.2.2.2.2.length) \/ (4 <= x.1 /\ x.1 <= 9 /\ x.2.2.2.2.2.2.length = 1))
theorem noBits_ev {a : Int} {l : List Int} (R : Nat -> Bool -> Prop) : Ev (fun n => Z64.c n a l (R n)) ↔ Ev (fun n => R n (decide (a = 0 /\ l.length = 0))) := by
 refine Ev.suc.trans ?_
 simp only [Z64.c, Z64.w, Ev.iteI, decide_eq_true_eq, Ev.s1 R]
 split
 ·refine ev_arg ?_; rw [decide_eq_decide]; omega
 ·refine ev_arg ?_; symm; rw [decide_eq_false_iff_not]; omega
theorem l3One_ev {a : Int} (R : Nat -> Bool -> Prop) : Ev (fun n => Z65.c n a (R n)) ↔ Ev (fun n => R n (decide (4 <= a /\ a <= 9))) := by
 refine Ev.suc.trans ?_
 simp only [Z65.c, Z65.w, l1In_ev, Ev.s1 R]
theorem form_lp {d : List tDecl} {i a b c e f : Int} {w ks : List Int} (hl : ks.length <= 1099511627776) (hi0 : 0 <= i) (hi : i <= 1048576) : ∀ (ys : List Int) (x : Int), ks.drop x.toNat = ys -> 0 <= x ->
  ∀ (Kx : Nat -> List tDecl -> Int -> Int -> Int -> Int -> Int -> List Int -> List Int -> Prop) (Kr : Nat -> Bool -> Prop),
  (Ev (fun n => Z63.l2 n d i a b c e f w ks x (Kx n) (Kr n)) ↔ if kidsIn i ys = true then Ev (fun n => Kx n d a b c e f w ks) else Ev (fun n => Kr n false))
 | [], x, h, h0, Kx, Kr => by
  have := drop_nil h h0
  refine Ev.suc.trans ?_
  simp (disch := omega) only [Z63.l2, Z63.l2.b, if_neg, decide_eq_true_eq, Ev.s8 Kx, kidsIn, List.all_nil, if_true]
 | y :: ys, x, h, h0, Kx, Kr => by
  obtain ⟨e1, e2, e3⟩ := drop_cons h h0
  refine Ev.suc.trans ?_
  simp (disch := omega) only [Z63.l2, Z63.l2.b, if_pos, decide_eq_true_eq, decide_eq_false_iff_not, Bool.not_eq_true', grd_dec2, e2, wrap64, l1In_ev, Ev.iteI, Ev.s1 Kr]
  rw [form_lp hl hi0 hi ys (x + 1) e3 (by omega), Ev.s1 Kr, Ev.s8 Kx]
  simp only [kidsIn_cons]
  by_cases h1 : 0 <= y /\ y <= i - 1
  ·rw [if_neg (fun h => h h1)]
   simp only [h1, true_and, and_self]
  ·rw [if_pos h1, if_neg (fun h => h1 h.1)]
theorem form_q7 {d : List tDecl} {g : Bool} {a b c e f : Int} {w ks : List Int} (R : Nat -> Bool -> Prop) (S : Nat -> List tDecl -> Int -> Int -> Int -> Int -> Int -> List Int -> List Int -> Prop) :
  Ev (fun n => Z63.q7 n d g a b c e f w ks (R n) (S n)) ↔ if g = true then Ev (fun n => R n false) else Ev (fun n => S n d a b c e f w ks) := by
 refine Ev.suc.trans ?_
 simp only [Z63.q7, Z63.q7.b, Ev.iteI, Ev.s1 R, Ev.s8 S]
theorem form_q8 {d : List tDecl} {a b c e f : Int} {w ks : List Int} (hd : d.length <= 1099511627776) (hw : Wd w) (R : Nat -> Bool -> Prop) :
  Ev (fun n => Z63.q8 n d a b c e f w ks (R n)) ↔ Ev (fun n => R n (kindB d (a, b, c, e, f, w, ks))) := by
 refine Ev.suc.trans ?_
 simp (disch := first | assumption | omega) only [Z63.q8, Z63.q8.b, Ev.iteI, decide_eq_true_eq, l1In_ev, l3One_ev, specOk_ev, wrap64, Ev.s1 R]
 have key : ∀ (b' : Bool), (b' = true ↔ kindB d (a, b, c, e, f, w, ks) = true) -> ((Ev fun n => R n b') ↔ Ev fun n => R n (kindB d (a, b, c, e, f, w, ks))) := fun b' h => by
  rw [Bool.eq_iff_iff.2 h]
 simp only [kindB, decide_eq_true_eq] at key
 (repeat' split) <;> refine key _ ?_ <;> first
  | (simp only [decide_eq_true_eq, Bool.false_eq_true, false_iff]; omega)
  | (simp only [decide_eq_true_eq, Bool.false_eq_true, false_iff]; constructor <;> intro h <;> simp_all <;> omega)
  | (simp_all; done) | (simp_all; omega)
theorem form_ev {d : List tDecl} {i a b c e f : Int} {w ks : List Int} (hd : d.length <= 1099511627776) (hw : Wd w) (hl : ks.length <= 1099511627776) (hi0 : 0 <= i) (hi : i <= 1048576) (R : Nat -> Bool -> Prop) :
  Ev (fun n => Z63.c n d a b c e f w ks i (R n)) ↔ Ev (fun n => R n (kidsIn i ks && plainB (a, b, c, e, f, w, ks) && kindB d (a, b, c, e, f, w, ks))) := by
 refine Ev.suc.trans ?_
 simp only [Z63.c, Z63.w]
 rw [form_lp hl hi0 hi ks 0 rfl (by omega)]
 by_cases hk : kidsIn i ks = true
 ·rw [if_pos hk, hk, Bool.true_and]
  simp only [Ev.iteI, Bool.not_eq_true', Bool.not_eq_false', decide_eq_true_eq, decide_eq_false_iff_not, noBits_ev, l3One_ev, form_q7, form_q8 hd hw, Ev.s1 R, Bool.false_eq_true, if_false, if_true]
  have T : plainB (a, b, c, e, f, w, ks) = true -> ((Ev fun n => R n (kindB d (a, b, c, e, f, w, ks))) ↔ Ev fun n => R n (plainB (a, b, c, e, f, w, ks) && kindB d (a, b, c, e, f, w, ks))) := fun h => by rw [h, Bool.true_and]
  have F : plainB (a, b, c, e, f, w, ks) = false -> ((Ev fun n => R n false) ↔ Ev fun n => R n (plainB (a, b, c, e, f, w, ks) && kindB d (a, b, c, e, f, w, ks))) := fun h => by rw [h, Bool.false_and]
  simp only [plainB, decide_eq_true_eq, decide_eq_false_iff_not] at T F
  (repeat' split) <;> first
   | (refine T ?_; omega)
   | (refine F ?_; omega)
 ·rw [if_neg hk, show kidsIn i ks = false from by simpa using hk, Bool.false_and, Bool.false_and, Ev.s1 R]
end Go.Vsi
end

section
set_option linter.unusedVariables false
set_option linter.unusedSimpArgs false
set_option synthInstance.maxSize 4096
namespace Go.Vsi
def WOk (l : List Int) : Prop := ∀ w ∈ l, 1 <= w /\ w <= 4096
theorem WOk.cons {y : Int} {r : List Int} (h : WOk (y :: r)) : (1 <= y /\ y <= 4096) /\ WOk r := ⟨h y List.mem_cons_self, fun w hw => h w (List.mem_cons_of_mem _ hw)⟩
def capSum (s : Int) : List Int -> Int
 | [] => s
 | y :: r => capSum (if s + y < 8192 then s + y else 8192) r
theorem sum_ge : ∀ {l : List Int}, WOk l -> (l.length : Int) <= l.sum
 | [], _ => by simp
 | y :: r, h => by
  have := sum_ge h.cons.2
  have := h.cons.1
  rw [List.sum_cons, List.length_cons]; omega
theorem capSum_big : ∀ {r : List Int}, WOk r -> capSum 8192 r = 8192
 | [], _ => rfl
 | y :: r, h => by
  have := h.cons.1
  rw [capSum, if_neg (by omega), capSum_big h.cons.2]
theorem capSum_eq : ∀ {l : List Int} {s : Int}, 0 <= s -> s <= 8192 -> WOk l -> capSum s l = if s + l.sum < 8192 then s + l.sum else 8192
 | [], s, h0, h1, hw => by
  rw [capSum, List.sum_nil]; split <;> omega
 | y :: r, s, h0, h1, hw => by
  have hy := hw.cons.1
  have hr := hw.cons.2
  have hs := sum_ge hr
  rw [capSum, List.sum_cons]
  by_cases h : s + y < 8192
  ·rw [if_pos h, capSum_eq (by omega) (by omega) hr]
   simp only [Int.add_assoc]
  ·rw [if_neg h, capSum_big hr, if_neg (by omega)]
def acc (w : Int) : Option Int := if 1 <= w /\ w <= 4096 then some w else none
def specW (d : List tDecl) (x : tTNode) (s : Int) : Int :=
 if x.1 = 1 then (rd d x.2.1.toNat).2
 else if x.1 = 2 then x.2.2.2.2.1
 else if x.1 = 4 then (if x.2.2.2.1 < 0 \/ x.2.2.1 < x.2.2.2.1 \/ x.2.2.1 >= s then -1 else x.2.2.1 - x.2.2.2.1 + 1)
 else if x.1 = 5 \/ x.1 = 6 then (if 0 <= x.2.2.1 /\ x.2.2.1 <= 4096 then s + x.2.2.1 else -1)
 else if x.1 = 7 \/ x.1 = 8 then (if 0 <= x.2.2.1 /\ x.2.2.1 <= 4096 then s else -1)
 else if x.1 = 9 then (if 1 <= x.2.2.1 /\ x.2.2.1 <= 4096 then s * x.2.2.1 else -1)
 else s
theorem node_one {d : List tDecl} {x : tTNode} {w : Int} (h1 : 4 <= x.1) (h2 : x.1 <= 9) : nodeW d x [w] = specW d x w := by
 have e : rd [w] 0 = w := rfl
 have e1 : [w].length = 1 := rfl
 rw [nodeW, e, e1, if_neg (by omega), if_neg (by omega), if_neg (by omega), if_neg (by omega), specW, if_neg (c := x.1 = 1) (by omega), if_neg (c := x.1 = 2) (by omega)]
 have h : x.1 = 4 \/ x.1 = 5 \/ x.1 = 6 \/ x.1 = 7 \/ x.1 = 8 \/ x.1 = 9 := by omega
 rcases h with h | h | h | h | h | h
 ·rw [if_pos (c := x.1 = 4) h]
  by_cases c : 0 <= x.2.2.2.1 /\ x.2.2.2.1 <= x.2.2.1 /\ x.2.2.1 < w
  ·rw [if_pos ⟨h, c⟩, if_neg (by omega)]
  ·rw [if_neg (fun hh => c hh.2), if_neg (by omega), if_neg (by omega), if_neg (by omega), if_pos (by omega)]
 all_goals
  rw [if_neg (c := x.1 = 4) (by omega), if_neg (by omega)]
 ·rw [if_pos (c := x.1 = 5 \/ x.1 = 6) (by omega)]
  by_cases c : 0 <= x.2.2.1 /\ x.2.2.1 <= 4096
  ·rw [if_pos ⟨Or.inl h, c⟩, if_pos c]
  ·rw [if_neg (fun hh => c hh.2), if_neg (by omega), if_neg (by omega), if_neg c]
 ·rw [if_pos (c := x.1 = 5 \/ x.1 = 6) (by omega)]
  by_cases c : 0 <= x.2.2.1 /\ x.2.2.1 <= 4096
  ·rw [if_pos ⟨Or.inr h, c⟩, if_pos c]
  ·rw [if_neg (fun hh => c hh.2), if_neg (by omega), if_neg (by omega), if_neg c]
 ·rw [if_neg (c := x.1 = 5 \/ x.1 = 6) (by omega), if_neg (by omega), if_pos (c := x.1 = 7 \/ x.1 = 8) (by omega)]
  by_cases c : 0 <= x.2.2.1 /\ x.2.2.1 <= 4096
  ·rw [if_pos ⟨Or.inl h, c⟩, if_pos c]
  ·rw [if_neg (fun hh => c hh.2), if_neg (by omega), if_neg c]
 ·rw [if_neg (c := x.1 = 5 \/ x.1 = 6) (by omega), if_neg (by omega), if_pos (c := x.1 = 7 \/ x.1 = 8) (by omega)]
  by_cases c : 0 <= x.2.2.1 /\ x.2.2.1 <= 4096
  ·rw [if_pos ⟨Or.inr h, c⟩, if_pos c]
  ·rw [if_neg (fun hh => c hh.2), if_neg (by omega), if_neg c]
 ·rw [if_neg (c := x.1 = 5 \/ x.1 = 6) (by omega), if_neg (by omega), if_neg (by omega), if_neg (c := x.1 = 7 \/ x.1 = 8) (by omega), if_pos (c := x.1 = 9) h]
  by_cases c : 1 <= x.2.2.1 /\ x.2.2.1 <= 4096
  ·rw [if_pos ⟨h, c⟩, if_pos c]
  ·rw [if_neg (fun hh => c hh.2), if_neg c]
theorem step_eq {d : List tDecl} {x : tTNode} {kw : List Int} (hw : WOk kw) (hl : kw.length = x.2.2.2.2.2.2.length) :
  (if x.2.2.2.2.2.2.length <= 4096 then acc (nodeW d x kw) else none) = if kindB d x = true then acc (specW d x (capSum 0 kw)) else none := by
 rw [<- hl]
 rw [capSum_eq (by omega) (by omega) hw, Int.zero_add]
 have hs := sum_ge hw
 by_cases hk : kindB d x = true
 ·rw [if_pos hk]
  rw [kindB, decide_eq_true_eq, <- hl] at hk
  rcases hk with ⟨h1, h2, h3, h4⟩ | ⟨h1, h2, h3⟩ | ⟨h1, h2⟩ | ⟨h1, h2, h3⟩
  ·rw [if_pos (by omega), nodeW, if_pos ⟨h1, h2, h3, h4⟩, specW, if_pos h1]
  ·rw [if_pos (by omega), nodeW, if_neg (by omega), if_pos ⟨h1, h2, h3⟩, specW, if_neg (by omega), if_pos h1]
  ·have hn : nodeW d x kw = kw.sum := by rw [nodeW, if_neg (by omega), if_neg (by omega), if_pos (by omega)]
   have hq : ∀ s, specW d x s = s := fun s => by rw [specW, if_neg (by omega), if_neg (by omega), if_neg (by omega), if_neg (by omega), if_neg (by omega), if_neg (by omega)]
   rw [hn, hq]
   unfold acc
   (repeat' split) <;> first | rfl | (exfalso; omega)
  ·rw [if_pos (by omega)]
   match kw, h3, hw with
   | [w], _, hw =>
    have h := hw w List.mem_cons_self
    have hs : (if [w].sum < 8192 then [w].sum else 8192) = w := by
     simp only [List.sum_cons, List.sum_nil, Int.add_zero]; rw [if_pos (by omega)]
    rw [hs]
    have hn := node_one (d := d) (x := x) (w := w) h1 h2
    rw [hn]
 ·rw [if_neg hk]
  rw [kindB, decide_eq_true_eq, <- hl] at hk
  have : nodeW d x kw = -1 := by
   rw [nodeW, if_neg (by omega), if_neg (by rintro ⟨h1, h2, h3⟩; exact hk (Or.inr (Or.inl ⟨h1, h2, h3⟩))), if_neg (by omega)]
   by_cases h1 : kw.length ≠ 1
   ·rw [if_pos h1]
   ·rw [if_neg h1, if_neg (by omega), if_neg (by omega), if_neg (by omega), if_neg (by omega)]
  rw [this]
  split <;> rfl
def stepW (d : List tDecl) (x : tTNode) (wide : List Int) : Option Int :=
 if kidsIn wide.length x.2.2.2.2.2.2 = true /\ plainB x = true /\ kindB d x = true then acc (specW d x (capSum 0 (x.2.2.2.2.2.2.map fun k => rd wide k.toNat))) else none
def setAll (u : List Bool) : List Int -> List Bool
 | [] => u
 | k :: r => setAll (u.set k.toNat true) r
theorem setAll_len : ∀ {ks : List Int} {u : List Bool}, (setAll u ks).length = u.length
 | [], u => rfl
 | k :: r, u => by rw [setAll, setAll_len, List.length_set]
def widthsGo (d : List tDecl) : List tTNode -> List Int -> List Bool -> Option (List Int × List Bool)
 | [], wide, used => some (wide, used)
 | x :: r, wide, used => match stepW d x wide with
  | some w => widthsGo d r (wide ++ [w]) (setAll used x.2.2.2.2.2.2)
  | none => none
theorem rd_mem {l : List Int} {k : Int} (h0 : 0 <= k) (h1 : k < (l.length : Int)) : rd l k.toNat ∈ l := by
 rw [rd, List.getD_eq_getElem?_getD, List.getElem?_eq_getElem (by omega)]
 exact List.getElem_mem _
theorem rd_app {α : Type} [Inhabited α] {a b : List α} {k : Nat} (h : k < a.length) : rd (a ++ b) k = rd a k := by
 rw [rd, rd, List.getD_eq_getElem?_getD, List.getD_eq_getElem?_getD, List.getElem?_append_left h]
theorem kids_wok {wide ks : List Int} (hw : WOk wide) (hk : kidsIn wide.length ks = true) : WOk (ks.map fun k => rd wide k.toNat) := by
 intro w hw'
 obtain ⟨k, hk', rfl⟩ := List.mem_map.1 hw'
 rw [kidsIn, List.all_eq_true] at hk
 have := hk k hk'
 rw [decide_eq_true_eq] at this
 exact hw _ (rd_mem this.1 (by omega))
theorem acc_some {w v : Int} (h : acc w = some v) : v = w /\ 1 <= w /\ w <= 4096 := by
 unfold acc at h
 split at h
 ·rename_i hh; cases h; exact ⟨rfl, hh⟩
 ·cases h
theorem stepW_ok {d : List tDecl} {x : tTNode} {wide : List Int} {w : Int} (h : stepW d x wide = some w) : 1 <= w /\ w <= 4096 := by
 unfold stepW at h
 split at h
 ·obtain ⟨rfl, h1⟩ := acc_some h; exact h1
 ·cases h
theorem WOk.app {wide : List Int} {w : Int} (h : WOk wide) (hw : 1 <= w /\ w <= 4096) : WOk (wide ++ [w]) := by
 intro v hv
 rcases List.mem_append.1 hv with hv | hv
 ·exact h v hv
 ·rw [List.mem_singleton] at hv; subst hv; exact hw
theorem widthsGo_ok {d : List tDecl} : ∀ {ys : List tTNode} {wide : List Int} {used : List Bool} {r : List Int × List Bool}, WOk wide -> widthsGo d ys wide used = some r -> WOk r.1 /\ r.1.length = wide.length + ys.length /\ r.2.length = used.length
 | [], wide, used, r, hw, h => by
  rw [widthsGo] at h; cases h; exact ⟨hw, rfl, rfl⟩
 | x :: ys, wide, used, r, hw, h => by
  rw [widthsGo] at h
  cases hs : stepW d x wide with
  | none => rw [hs] at h; cases h
  | some w =>
   rw [hs] at h
   obtain ⟨h1, h2, h3⟩ := widthsGo_ok (hw.app (stepW_ok hs)) h
   refine ⟨h1, ?_, ?_⟩
   ·rw [h2]; simp; omega
   ·rw [h3, setAll_len]
theorem kids_lp {d : List tDecl} {m i a b : Int} {x : tTNode} {ks out : List Int} {nodes : List tTNode} (hl : ks.length <= 4096) (hi0 : 0 <= i) (hi : i <= (out.length : Int)) (hi' : i <= 1048576) : ∀ (ys : List Int) (j : Int) (used : List Bool) (kw : List Int), ks.drop j.toNat = ys -> 0 <= j -> i <= (used.length : Int) -> kw.length = ks.length ->
  ∀ (Kx : Nat -> List tDecl -> Int -> Int -> tTNode -> Int -> Int -> List Int -> List Bool -> List Int -> List tTNode -> Prop) (Kr : Nat -> Bool -> List Int -> Prop),
  (Ev (fun n => Z13.l13 n d m i x a b ks ks.length out nodes j used kw (Kx n) (Kr n)) ↔
   if kidsIn i ys = true then Ev (fun n => Kx n d m i x a b out (setAll used ys) (kw.take j.toNat ++ ys.map fun k => rd out k.toNat) nodes) else Ev (fun n => Kr n false []))
 | [], j, used, kw, h, h0, hu, hkw, Kx, Kr => by
  have := drop_nil h h0
  refine Ev.suc.trans ?_
  simp (disch := omega) only [Z13.l13, Z13.l13.b, if_neg, decide_eq_true_eq, Ev.s10 Kx, kidsIn, List.all_nil, if_true, setAll, List.map_nil, List.append_nil]
  rw [List.take_of_length_le (by omega)]
 | y :: ys, j, used, kw, h, h0, hu, hkw, Kx, Kr => by
  obtain ⟨e1, e2, e3⟩ := drop_cons h h0
  refine Ev.suc.trans ?_
  simp (disch := omega) only [Z13.l13, Z13.l13.b, if_pos, decide_eq_true_eq, decide_eq_false_iff_not, Bool.not_eq_true', grd_dec2, e2, wrap64, inside_ev, Ev.iteI, Ev.s2 Kr]
  by_cases h1 : 0 <= y /\ y <= i - 1
  ·rw [if_neg (fun h => h h1)]
   rw [kids_lp hl hi0 hi hi' ys (j + 1) _ _ e3 (by omega) (by simpa using hu) (by simpa using hkw), Ev.s10 Kx, Ev.s2 Kr, take_set (by omega) (by omega)]
   simp only [kidsIn_cons, h1, and_self, true_and, setAll, List.map_cons, List.append_assoc, List.singleton_append]
  ·rw [if_pos h1, if_neg]
   rw [kidsIn_cons]
   exact fun h => h1 h.1
theorem widths_lp {d : List tDecl} {t : List tTNode} (hd : d.length <= 1099511627776) (ht : t.length <= 400) : ∀ (ys : List tTNode) (wide z : List Int) (used : List Bool), t.drop wide.length = ys -> (wide ++ z).length = t.length -> used.length = t.length -> WOk wide ->
  ∀ (Kx : Nat -> Int -> List Int -> List Bool -> Prop) (Kr : Nat -> Bool -> List Int -> Prop),
  (Ev (fun n => Z13.l6 n d t.length t.length wide.length (wide ++ z) used t (Kx n) (Kr n)) ↔ match widthsGo d ys wide used with
   | some r => Ev (fun n => Kx n t.length r.1 r.2)
   | none => Ev (fun n => Kr n false []))
 | [], wide, z, used, h, hz, hu, hw, Kx, Kr => by
  have hle := List.drop_eq_nil_iff.1 h
  have hz0 : z = [] := by
   rw [List.length_append] at hz
   exact List.eq_nil_of_length_eq_zero (by omega)
  subst hz0
  refine Ev.suc.trans ?_
  simp (disch := omega) only [Z13.l6, Z13.l6.b, if_neg, decide_eq_true_eq, Ev.s3 Kx, widthsGo, List.append_nil]
 | x :: ys, wide, z, used, h, hz, hu, hw, Kx, Kr => by
  have h' : t.drop (wide.length : Int).toNat = x :: ys := h
  obtain ⟨e1, e2, e3⟩ := drop_cons h' (by omega)
  have e2' : rd t wide.length = x := e2
  rw [List.length_append] at hz
  refine Ev.suc.trans ?_
  simp (disch := omega) only [Z13.l6, Z13.l6.b, if_pos, decide_eq_true_eq, Ev.iteI, grd_dec2, Int.toNat_natCast, e2', Ev.s2 Kr]
  rw [widthsGo]
  have hse := step_eq (d := d) (x := x) (kw := x.2.2.2.2.2.2.map fun k => rd wide k.toNat)
  by_cases hk : x.2.2.2.2.2.2.length <= 4096
  ·rw [if_neg (by omega)]
   simp (disch := omega) only [grd_dec2, decide_true, Bool.and_true]
   rw [kids_lp hk (by omega) (by rw [List.length_append]; omega) (by omega) x.2.2.2.2.2.2 0 _ _ rfl (by omega) (by omega) (by simp), Ev.s2 Kr]
   by_cases hin : kidsIn wide.length x.2.2.2.2.2.2 = true
   ·rw [if_pos hin]
    have hwk := kids_wok hw hin
    have hmap : (x.2.2.2.2.2.2.map fun k => rd (wide ++ z) k.toNat) = x.2.2.2.2.2.2.map fun k => rd wide k.toNat := by
     apply List.map_congr_left
     intro k hk'
     rw [kidsIn, List.all_eq_true] at hin
     have := hin k hk'
     rw [decide_eq_true_eq] at this
     exact rd_app (by omega)
    have hse := hse hwk (by simp)
    rw [if_pos hk] at hse
    simp only [Int.toNat_zero, List.take_zero, List.nil_append, hmap]
    simp (disch := first | assumption | (simp only [List.length_map, List.length_append, List.length_set]; omega) | omega) only [width_ev hd (by simpa using hk) (fun w hw' => ⟨by have := hwk w hw'; omega, (hwk w hw').2⟩), plain_ev, Ev.iteI, Bool.not_eq_false', grd_dec2, rd_set, Int.toNat_natCast, inside_ev, Bool.not_eq_true', decide_eq_false_iff_not, wrap64, Ev.s2 Kr]
    by_cases hp : plainB x = true
    ·rw [if_pos hp]
     have hst : stepW d x wide = acc (nodeW d x (x.2.2.2.2.2.2.map fun k => rd wide k.toNat)) := by
      rw [hse, stepW]
      by_cases hkb : kindB d x = true
      ·rw [if_pos ⟨hin, hp, hkb⟩, if_pos hkb]
      ·rw [if_neg (fun h => hkb h.2.2), if_neg hkb]
     by_cases hacc : 1 <= nodeW d x (x.2.2.2.2.2.2.map fun k => rd wide k.toNat) /\ nodeW d x (x.2.2.2.2.2.2.map fun k => rd wide k.toNat) <= 4096
     ·rw [if_neg (fun h => h hacc)]
      rw [hst, acc, if_pos hacc]
      simp only []
      match z, hz with
      | [], hz => simp at hz; omega
      | v :: z, hz =>
       have es : (wide ++ v :: z).set wide.length (nodeW d x (x.2.2.2.2.2.2.map fun k => rd wide k.toNat)) = (wide ++ [nodeW d x (x.2.2.2.2.2.2.map fun k => rd wide k.toNat)]) ++ z := by
        rw [List.set_append_right _ _ (Nat.le_refl _), Nat.sub_self, List.set_cons_zero, List.append_assoc]; rfl
       rw [es]
       have el : ((wide.length : Int) + 1) = ((wide ++ [nodeW d x (x.2.2.2.2.2.2.map fun k => rd wide k.toNat)]).length : Int) := by simp
       rw [el, widths_lp hd ht ys _ z _ (by rw [<- e3, List.length_append]; rfl) (by simp at hz ⊢; omega) (by rw [setAll_len]; exact hu) (hw.app hacc)]
       cases widthsGo d ys (wide ++ [nodeW d x (x.2.2.2.2.2.2.map fun k => rd wide k.toNat)]) (setAll used x.2.2.2.2.2.2) with
       | none => exact Ev.s2 Kr _ _
       | some r => exact Ev.s3 Kx _ _ _
     ·rw [if_pos hacc, hst, acc, if_neg hacc]
    ·rw [if_neg hp, stepW, if_neg (fun h => hp h.2.1)]
   ·rw [if_neg hin, stepW, if_neg (fun h => hin h.1)]
  ·rw [if_pos (by omega)]
   have : stepW d x wide = none := by
    unfold stepW
    split
    ·rename_i hh
     have hse := hse (kids_wok hw hh.1) (by simp)
     rw [if_neg hk, if_pos hh.2.2] at hse
     exact hse.symm
    ·rfl
   rw [this]
end Go.Vsi
end

section
set_option linter.unusedVariables false
set_option linter.unusedSimpArgs false
set_option synthInstance.maxSize 4096
namespace Go.Vsi
theorem Z50_lp {l : List Bool} {v : Bool} (hl : l.length <= 1099511627776) : ∀ (ys : List Bool) (x : Int), l.drop x.toNat = ys -> 0 <= x ->
  ∀ (Kx : Nat -> Prop) (Kr : Nat -> Int -> Prop),
  (Ev (fun n => Z50.l2 n l v l.length x (Kx n) (Kr n)) ↔ if firstIx (fun y => v == y) ys x < 0 then Ev Kx else Ev (fun n => Kr n (firstIx (fun y => v == y) ys x)))
 | [], x, h, h0, Kx, Kr => by
  have := drop_nil h h0
  rw [firstIx, if_pos (by decide)]
  refine Ev.suc.trans ?_
  simp (disch := omega) only [Z50.l2, Z50.l2.b, if_neg, decide_eq_true_eq, Ev.s0 Kx]
 | y :: ys, x, h, h0, Kx, Kr => by
  obtain ⟨e1, e2, e3⟩ := drop_cons h h0
  refine Ev.suc.trans ?_
  simp (disch := first | omega | omega) only [Z50.l2, Z50.l2.b, if_pos, decide_eq_true_eq, grd_dec2, e2, wrap64, Ev.s1 Kr, Ev.s0 Kx, Ev.iteI]
  rw [Z50_lp hl ys (x + 1) e3 (by omega), Ev.s0 Kx, Ev.s1 Kr]
  simp only [firstIx, decide_eq_true_eq]
  split
  ·rw [if_neg (by omega)]
  ·rfl
theorem Z50_ev {l : List Bool} {v : Bool} (hl : l.length <= 1099511627776) (R : Nat -> Int -> Prop) :
  Ev (fun n => Z50.c n l v (R n)) ↔ Ev (fun n => R n (firstIx (fun y => v == y) l 0)) := by
 refine Ev.suc.trans ?_
 simp only [Z50.c, Z50.w]
 rw [Z50_lp hl l 0 rfl (by omega), Ev.s1 R, Ev.s1 R]
 split
 ·rw [firstIx_neg (by omega) ‹_›]
 ·rfl
theorem Z47_ev {l : List Bool} {v : Bool} (hl : l.length <= 1099511627776) (R : Nat -> Bool -> Prop) :
  Ev (fun n => Z47.c n l v (R n)) ↔ Ev (fun n => R n (l.any fun y => v == y)) := by
 refine Ev.suc.trans ?_
 simp only [Z47.c, Z47.w]
 rw [Z50_ev hl, Ev.s1 R, firstIx_any (by omega)]
theorem any_false (l : List Bool) : (!(l.any fun y => false == y)) = l.all id := by
 induction l with
 | nil => rfl
 | cons a l ih => rw [List.any_cons, List.all_cons, Bool.not_or, ih]; cases a <;> rfl
def widthsI (d : List tDecl) (t : List tTNode) : List Int × Bool :=
 if 1 <= t.length /\ t.length <= 400 then (match widthsGo d t [] (List.replicate t.length false) with
  | some r => (r.1, (r.2.take (t.length - 1)).all id)
  | none => ([], false)) else ([], false)
theorem widthsI_ok {d : List tDecl} {t : List tTNode} (h : (widthsI d t).2 = true) : WOk (widthsI d t).1 /\ (widthsI d t).1.length = t.length /\ 1 <= t.length /\ t.length <= 400 := by
 unfold widthsI at h ⊢
 by_cases hl : 1 <= t.length /\ t.length <= 400
 ·rw [if_pos hl] at h ⊢
  cases hg : widthsGo d t [] (List.replicate t.length false) with
  | none => rw [hg] at h; cases h
  | some r =>
   rw [hg] at h
   obtain ⟨h1, h2, h3⟩ := widthsGo_ok (fun w hw => by cases hw) hg
   exact ⟨h1, by simpa using h2, hl⟩
 ·rw [if_neg hl] at h; cases h
theorem widths_ev {d : List tDecl} {t : List tTNode} (hd : d.length <= 1099511627776) (R : Nat -> List Int -> Bool -> Prop) :
  Ev (fun n => Z13.c n d t (R n)) ↔ Ev (fun n => R n (widthsI d t).1 (widthsI d t).2) := by
 refine Ev.suc.trans ?_
 simp only [Z13.c, Z13.w, Ev.iteI, decide_eq_true_eq, decide_eq_false_iff_not, Ev.s2 R, widthsI]
 by_cases hl : 1 <= t.length /\ t.length <= 400
 ·rw [if_pos (by omega), if_neg (by omega), if_pos hl]
  have lp := fun (Kx : Nat -> Int -> List Int -> List Bool -> Prop) (Kr : Nat -> Bool -> List Int -> Prop) => widths_lp hd hl.2 t [] (List.replicate t.length 0) (List.replicate t.length false) rfl (by simp) (by simp) (fun w hw => by cases hw) Kx Kr
  simp only [List.length_nil, List.nil_append, Int.natCast_zero] at lp
  simp (disch := omega) only [Z13.j1, Z13.j0, grd_dec2, decide_true, Bool.and_true, and_self, Int.toNat_natCast]
  rw [lp]
  cases hg : widthsGo d t [] (List.replicate t.length false) with
  | none => exact Ev.s2 R _ _
  | some r =>
   obtain ⟨h1, h2, h3⟩ := widthsGo_ok (fun w hw => by cases hw) hg
   rw [List.length_replicate] at h3
   simp (disch := omega) only [wrap64, grd_dec3]
   rw [Z47_ev (by simp; omega), Ev.s2 R]
   rw [any_false, List.drop_zero, show ((t.length : Int) - 1).toNat = t.length - 1 from by omega]
 ·rw [if_neg hl]
  split
  ·rw [if_pos (by omega)]
  ·rfl
def widthI (d : List tDecl) (t : List tTNode) : Int := if (widthsI d t).2 = true then rd (widthsI d t).1 (t.length - 1) else -1
theorem widthI_ev {d : List tDecl} {t : List tTNode} (hd : d.length <= 1099511627776) (R : Nat -> Int -> Prop) :
  Ev (fun n => Z12.c n d t (R n)) ↔ Ev (fun n => R n (widthI d t)) := by
 refine Ev.suc.trans ?_
 simp only [Z12.c, Z12.w, widths_ev hd, Ev.iteI, Bool.not_eq_true', Ev.s1 R, widthI]
 by_cases h : (widthsI d t).2 = true
 ·obtain ⟨h1, h2, h3, h4⟩ := widthsI_ok h
  rw [if_pos h, if_neg (by simp [h])]
  simp (disch := omega) only [wrap64, grd_dec2, Ev.s1 R]
  rw [show (((widthsI d t).1.length : Int) - 1).toNat = t.length - 1 from by omega]
 ·rw [if_neg h, if_pos (by simpa using h)]
def widthOf (d : List tDecl) (t : List tTNode) : Int := if declsOk d = true then widthI d t else -1
theorem wideS_lp {d : List tDecl} {wide : List Int} {a b c e f : Int} {w ks : List Int} (hl : ks.length <= 1099511627776) (hw : WOk wide) : ∀ (ys : List Int) (s x : Int), ks.drop x.toNat = ys -> 0 <= x -> 0 <= s -> s <= 8192 -> kidsIn wide.length ys = true ->
  ∀ (Kx : Nat -> List tDecl -> Int -> Int -> Int -> Int -> Int -> Int -> List Int -> List Int -> Prop),
  (Ev (fun n => Z66.l3 n d wide a b c e f w ks s x (Kx n)) ↔ Ev (fun n => Kx n d (capSum s (ys.map fun k => rd wide k.toNat)) a b c e f w ks))
 | [], s, x, h, h0, hs, hs', hk, Kx => by
  have := drop_nil h h0
  refine Ev.suc.trans ?_
  simp (disch := omega) only [Z66.l3, Z66.l3.b, if_neg, decide_eq_true_eq, Ev.s9 Kx, List.map_nil, capSum]
 | y :: ys, s, x, h, h0, hs, hs', hk, Kx => by
  obtain ⟨e1, e2, e3⟩ := drop_cons h h0
  rw [kidsIn_cons] at hk
  have hy := hw _ (rd_mem hk.1.1 (show y < (wide.length : Int) by omega))
  refine Ev.suc.trans ?_
  simp (disch := omega) only [Z66.l3, Z66.l3.b, if_pos, decide_eq_true_eq, grd_dec2, e2, wrap64]
  rw [wideS_lp hl hw ys _ (x + 1) e3 (by omega) (by split <;> omega) (by split <;> omega) hk.2, Ev.s9 Kx, List.map_cons, capSum]
theorem wideS_ev {d : List tDecl} {wide : List Int} {a b c e f : Int} {w ks : List Int} (hd : d.length <= 1099511627776) (hl : ks.length <= 1099511627776) (hw : WOk wide) (hk : kidsIn wide.length ks = true) (hkb : kindB d (a, b, c, e, f, w, ks) = true) (R : Nat -> Int -> Prop) :
  Ev (fun n => Z66.c n d a b c e f w ks wide (R n)) ↔ Ev (fun n => R n (specW d (a, b, c, e, f, w, ks) (capSum 0 (ks.map fun k => rd wide k.toNat)))) := by
 refine Ev.suc.trans ?_
 simp only [Z66.c, Z66.w]
 rw [wideS_lp hl hw ks 0 0 rfl (by omega) (by omega) (by omega) hk]
 have hs : 0 <= capSum 0 (ks.map fun k => rd wide k.toNat) /\ capSum 0 (ks.map fun k => rd wide k.toNat) <= 8192 := by
  have hwk := kids_wok hw hk
  have := sum_ge hwk
  rw [capSum_eq (by omega) (by omega) hwk]
  split <;> omega
 generalize capSum 0 (ks.map fun k => rd wide k.toNat) = s at hs
 rw [kindB, decide_eq_true_eq] at hkb
 simp only [] at hkb
 simp only [Z66.j2, Z66.j3, Ev.iteI, decide_eq_true_eq, decide_eq_false_iff_not, Bool.not_eq_true', l1In_ev, Ev.s1 R, if_true]
 rw [specW]
 simp only []
 by_cases h1 : a = 1
 ·rw [if_pos h1, if_pos h1]
  simp (disch := omega) only [grd_dec2, Ev.s1 R]
 rw [if_neg h1, if_neg h1]
 by_cases h2 : a = 2
 ·rw [if_pos h2, if_pos h2]
 rw [if_neg h2, if_neg h2]
 by_cases h4 : a = 4
 ·rw [if_pos h4, if_pos h4]
  by_cases g1 : e < 0
  ·rw [if_neg (by omega), if_pos (Or.inl g1)]
  rw [if_pos g1]
  by_cases g2 : c < e
  ·rw [if_neg (by omega), if_pos (Or.inr (Or.inl g2))]
  rw [if_pos g2]
  by_cases g3 : c >= s
  ·rw [if_pos g3, if_pos (Or.inr (Or.inr g3))]
  rw [if_neg g3, if_neg (by omega), wrap64 (x := c - e) (by omega) (by omega), wrap64 (by omega) (by omega)]
 rw [if_neg h4, if_neg h4]
 have hm : 1 <= c /\ c <= 4096 -> IntKind.wrap .i64 (s * c) = s * c := fun h => by
  have := mulB hs.1 hs.2 (show 0 <= c by omega) h.2
  exact wrap64 (by omega) (by omega)
 have hp : 0 <= c /\ c <= 4096 -> IntKind.wrap .i64 (s + c) = s + c := fun h => wrap64 (by omega) (by omega)
 have key56 : (if ¬ (0 <= c /\ c <= 4096) then Ev fun n => R n (-1) else Ev fun n => R n (IntKind.wrap .i64 (s + c))) ↔ Ev fun n => R n (if 0 <= c /\ c <= 4096 then s + c else -1) := by
  by_cases g : 0 <= c /\ c <= 4096
  ·rw [if_neg (fun h => h g), if_pos g, hp g]
  ·rw [if_pos g, if_neg g]
 have key78 : (if ¬ (0 <= c /\ c <= 4096) then Ev fun n => R n (-1) else Ev fun n => R n s) ↔ Ev fun n => R n (if 0 <= c /\ c <= 4096 then s else -1) := by
  by_cases g : 0 <= c /\ c <= 4096
  ·rw [if_neg (fun h => h g), if_pos g]
  ·rw [if_pos g, if_neg g]
 have key9 : (if ¬ (1 <= c /\ c <= 4096) then Ev fun n => R n (-1) else Ev fun n => R n (IntKind.wrap .i64 (s * c))) ↔ Ev fun n => R n (if 1 <= c /\ c <= 4096 then s * c else -1) := by
  by_cases g : 1 <= c /\ c <= 4096
  ·rw [if_neg (fun h => h g), if_pos g, hm g]
  ·rw [if_pos g, if_neg g]
 by_cases h5 : a = 5
 ·rw [if_pos h5, if_pos (Or.inl h5)]; exact key56
 rw [if_neg h5]
 by_cases h6 : a = 6
 ·rw [if_pos h6, if_pos (Or.inr h6)]; exact key56
 rw [if_neg h6, if_neg (show ¬ (a = 5 \/ a = 6) by omega)]
 by_cases h7 : a = 7
 ·rw [if_pos h7, if_pos (Or.inl h7)]; exact key78
 rw [if_neg h7]
 by_cases h8 : a = 8
 ·rw [if_pos h8, if_pos (Or.inr h8)]; exact key78
 rw [if_neg h8, if_neg (show ¬ (a = 7 \/ a = 8) by omega)]
 by_cases h9 : a = 9
 ·rw [if_pos h9, if_pos h9]; exact key9
 rw [if_neg h9, if_neg h9]
theorem usedS_lp {d : List tDecl} {i : Int} {o wide : List Int} {t : List tTNode} {x : tTNode} (hi0 : 0 <= i) (hi : i < (t.length : Int)) (hx : rd t i.toNat = x) (hl : x.2.2.2.2.2.2.length <= 1099511627776) : ∀ (ys : List Int) (j : Int) (used : List Bool), x.2.2.2.2.2.2.drop j.toNat = ys -> 0 <= j -> used.length = t.length -> kidsIn i ys = true ->
  ∀ (Kx : Nat -> List tDecl -> Int -> List Int -> List Bool -> List Int -> List tTNode -> Prop),
  (Ev (fun n => Z67.l16 n d i o wide t j used (Kx n)) ↔ Ev (fun n => Kx n d i o (setAll used ys) wide t))
 | [], j, used, h, h0, hu, hk, Kx => by
  have := drop_nil h h0
  refine Ev.suc.trans ?_
  simp (disch := omega) only [Z67.l16, Z67.l16.b, grd_dec2, hx, if_neg, decide_eq_true_eq, Ev.s6 Kx, setAll]
 | y :: ys, j, used, h, h0, hu, hk, Kx => by
  obtain ⟨e1, e2, e3⟩ := drop_cons h h0
  rw [kidsIn_cons] at hk
  refine Ev.suc.trans ?_
  simp (disch := omega) only [Z67.l16, Z67.l16.b, grd_dec2, hx, if_pos, decide_eq_true_eq, e2, wrap64]
  rw [usedS_lp hi0 hi hx hl ys (j + 1) _ e3 (by omega) (by simpa using hu) hk.2, Ev.s6 Kx, setAll]
theorem widthsS_lp {d : List tDecl} {t : List tTNode} (hd : d.length <= 1099511627776) (ht : t.length <= 400) (hg : ∀ x : tTNode, x ∈ t -> Wd x.2.2.2.2.2.1 /\ x.2.2.2.2.2.2.length <= 1099511627776) : ∀ (ys : List tTNode) (wide : List Int) (used : List Bool), t.drop wide.length = ys -> (∀ x : tTNode, x ∈ ys -> Wd x.2.2.2.2.2.1 /\ x.2.2.2.2.2.2.length <= 1099511627776) -> used.length = t.length -> WOk wide ->
  ∀ (Kx : Nat -> List Int -> List Int -> List Bool -> Prop) (Kr : Nat -> List Int -> Prop),
  (Ev (fun n => Z67.l7 n d wide.length wide [] used t (Kx n) (Kr n)) ↔ match widthsGo d ys wide used with
   | some r => Ev (fun n => Kx n r.1 [] r.2)
   | none => Ev (fun n => Kr n []))
 | [], wide, used, h, hy, hu, hw, Kx, Kr => by
  have hle := List.drop_eq_nil_iff.1 h
  refine Ev.suc.trans ?_
  simp (disch := omega) only [Z67.l7, Z67.l7.b, if_neg, decide_eq_true_eq, Ev.s3 Kx, widthsGo]
 | x :: ys, wide, used, h, hy, hu, hw, Kx, Kr => by
  have h' : t.drop (wide.length : Int).toNat = x :: ys := h
  obtain ⟨e1, e2, e3⟩ := drop_cons h' (by omega)
  have e2' : rd t wide.length = x := e2
  have hx := hy x List.mem_cons_self
  refine Ev.suc.trans ?_
  simp (disch := first | exact hx.1 | exact hx.2 | omega) only [Z67.l7, Z67.l7.b, if_pos, decide_eq_true_eq, Ev.iteI, grd_dec2, Int.toNat_natCast, e2', Ev.s1 Kr, form_ev, Bool.not_eq_true']
  rw [widthsGo]
  by_cases hf : kidsIn wide.length x.2.2.2.2.2.2 = true /\ plainB x = true /\ kindB d x = true
  ·obtain ⟨f1, f2, f3⟩ := hf
   have e : (kidsIn (wide.length : Int) x.2.2.2.2.2.2 && plainB (x.1, x.2.1, x.2.2.1, x.2.2.2.1, x.2.2.2.2.1, x.2.2.2.2.2.1, x.2.2.2.2.2.2) && kindB d (x.1, x.2.1, x.2.2.1, x.2.2.2.1, x.2.2.2.2.1, x.2.2.2.2.2.1, x.2.2.2.2.2.2)) = true := by
    rw [f1, show plainB (x.1, x.2.1, x.2.2.1, x.2.2.2.1, x.2.2.2.2.1, x.2.2.2.2.2.1, x.2.2.2.2.2.2) = true from f2, show kindB d (x.1, x.2.1, x.2.2.1, x.2.2.2.1, x.2.2.2.2.1, x.2.2.2.2.2.1, x.2.2.2.2.2.2) = true from f3]; rfl
   rw [e, if_neg (by decide)]
   have hwi := fun (R : Nat -> Int -> Prop) => wideS_ev (wide := wide) hd hx.2 hw f1 f3 R
   simp (disch := omega) only [hwi, l1In_ev, Ev.iteI, Bool.not_eq_true', decide_eq_false_iff_not, Ev.s1 Kr, grd_dec]
   have hst : stepW d x wide = acc (specW d x (capSum 0 (x.2.2.2.2.2.2.map fun k => rd wide k.toNat))) := by
    rw [stepW, if_pos ⟨f1, f2, f3⟩]
   rw [hst]
   generalize hv : specW d x (capSum 0 (x.2.2.2.2.2.2.map fun k => rd wide k.toNat)) = v
   by_cases hacc : 1 <= v /\ v <= 4096
   ·rw [if_neg (fun h => h hacc), acc, if_pos hacc]
    simp only []
    simp (disch := (simp only [List.length_cons, List.length_nil]; omega)) only [grd_dec]
    rw [usedS_lp (by omega) e1 e2 hx.2 _ 0 used rfl (by omega) hu f1]
    have el : IntKind.wrap .i64 ((wide.length : Int) + 1) = ((wide ++ [v]).length : Int) := by
     rw [wrap64 (by omega) (by omega)]; simp
    rw [el, widthsS_lp hd ht hg ys (wide ++ [v]) _ (by rw [<- e3, List.length_append]; rfl) (fun x hx' => hy x (List.mem_cons_of_mem _ hx')) (by rw [setAll_len]; exact hu) (hw.app hacc)]
    simp only [Int.toNat_zero, List.drop_zero]
    cases widthsGo d ys (wide ++ [v]) (setAll used x.2.2.2.2.2.2) with
    | none => exact Ev.s1 Kr _
    | some r => exact Ev.s3 Kx _ _ _
   ·rw [if_pos hacc, acc, if_neg hacc]
  ·have e : (kidsIn (wide.length : Int) x.2.2.2.2.2.2 && plainB (x.1, x.2.1, x.2.2.1, x.2.2.2.1, x.2.2.2.2.1, x.2.2.2.2.2.1, x.2.2.2.2.2.2) && kindB d (x.1, x.2.1, x.2.2.1, x.2.2.2.1, x.2.2.2.2.1, x.2.2.2.2.2.1, x.2.2.2.2.2.2)) = false := by
    rw [Bool.eq_false_iff]
    intro h
    rw [Bool.and_eq_true, Bool.and_eq_true] at h
    exact hf ⟨h.1.1, h.1.2, h.2⟩
   rw [if_pos e, stepW, if_neg hf]
theorem allS_lp {wide : List Int} {used : List Bool} (hl : used.length <= 1048576) (h1 : 1 <= used.length) : ∀ (m : Nat) (i : Int), i + m = (used.length : Int) - 1 -> 0 <= i -> ∀ (Kx Kr : Nat -> List Int -> Prop),
  (Ev (fun n => Z67.l20 n wide [] used i (Kx n) (Kr n)) ↔ if ((used.take (used.length - 1)).drop i.toNat).all id = true then Ev (fun n => Kx n wide) else Ev (fun n => Kr n []))
 | 0, i, h, h0, Kx, Kr => by
  refine Ev.suc.trans ?_
  simp (disch := omega) only [Z67.l20, Z67.l20.b, wrap64, if_neg, decide_eq_true_eq, Ev.s1 Kx]
  rw [List.drop_eq_nil_of_le (by simp; omega)]
  simp
 | m + 1, i, h, h0, Kx, Kr => by
  refine Ev.suc.trans ?_
  have hk : i.toNat < (used.take (used.length - 1)).length := by simp; omega
  have e : (used.take (used.length - 1)).drop i.toNat = rd used i.toNat :: (used.take (used.length - 1)).drop (i + 1).toNat := by
   rw [List.drop_eq_getElem_cons hk, show (i + 1).toNat = i.toNat + 1 from by omega]
   congr 1
   rw [List.getElem_take, rd, List.getD_eq_getElem?_getD, List.getElem?_eq_getElem (by omega)]; rfl
  simp (disch := omega) only [Z67.l20, Z67.l20.b, wrap64, if_pos, decide_eq_true_eq, grd_dec2, Ev.iteI, Bool.not_eq_true', Ev.s1 Kr, e]
  rw [allS_lp hl h1 m (i + 1) (by omega) (by omega), Ev.s1 Kx, Ev.s1 Kr, List.all_cons, id]
  cases rd used i.toNat <;> simp
theorem widthsS_ev {d : List tDecl} {t : List tTNode} (hd : d.length <= 1099511627776) (hg : ∀ x : tTNode, x ∈ t -> Wd x.2.2.2.2.2.1 /\ x.2.2.2.2.2.2.length <= 1099511627776) (R : Nat -> List Int -> Prop) :
  Ev (fun n => Z67.c n d t (R n)) ↔ Ev (fun n => R n (if declsOk d = true /\ (widthsI d t).2 = true then (widthsI d t).1 else [])) := by
 refine Ev.suc.trans ?_
 simp only [Z67.c, Z67.w, declsOkS_ev, Ev.iteI, decide_eq_true_eq, decide_eq_false_iff_not, Bool.not_eq_false', Ev.s1 R, widthsI]
 by_cases h : declsOk d = true
 ·rw [if_pos h]
  by_cases hl : 1 <= t.length /\ t.length <= 400
  ·rw [if_pos (by omega), if_neg (by omega)]
   simp only [if_pos hl]
   have lp := fun (Kx : Nat -> List Int -> List Int -> List Bool -> Prop) (Kr : Nat -> List Int -> Prop) => widthsS_lp hd hl.2 hg t [] (List.replicate t.length false) rfl hg (by simp) (fun w hw => by cases hw) Kx Kr
   simp only [List.length_nil] at lp
   simp only [Int.natCast_zero] at lp
   simp (disch := omega) only [Z67.j0, grd_dec2, decide_true, Bool.and_true, Int.toNat_natCast]
   rw [lp]
   cases hg' : widthsGo d t [] (List.replicate t.length false) with
   | none => simp only [h, Bool.false_eq_true, and_false, if_false]; exact Ev.s1 R _
   | some r =>
    obtain ⟨h1, h2, h3⟩ := widthsGo_ok (fun w hw => by cases hw) hg'
    rw [List.length_replicate] at h3
    simp only [h, true_and]
    rw [allS_lp (by omega) (by omega) (t.length - 1) 0 (by omega) (by omega), Ev.s1 R, Ev.s1 R, h3]
    simp only [Int.toNat_zero, List.drop_zero]
    split <;> rfl
  ·simp only [if_neg hl, Bool.false_eq_true, and_false, if_false]
   split
   ·rw [if_pos (by omega)]
   ·rfl
 ·rw [if_neg h]
  simp only [h, false_and, if_false]
  rw [if_neg (by simp)]
theorem widthOfS_ev {d : List tDecl} {t : List tTNode} (hd : d.length <= 1099511627776) (hg : ∀ x : tTNode, x ∈ t -> Wd x.2.2.2.2.2.1 /\ x.2.2.2.2.2.2.length <= 1099511627776) (R : Nat -> Int -> Prop) :
  Ev (fun n => Z56.c n d t (R n)) ↔ Ev (fun n => R n (widthOf d t)) := by
 refine Ev.suc.trans ?_
 simp only [Z56.c, Z56.w, widthsS_ev hd hg, Ev.iteI, decide_eq_true_eq, Ev.s1 R, widthOf, widthI]
 by_cases h : declsOk d = true
 ·by_cases h2 : (widthsI d t).2 = true
  ·obtain ⟨h3, h4, h5, h6⟩ := widthsI_ok h2
   simp only [h, h2, and_self, if_true]
   rw [if_neg (by omega)]
   simp (disch := omega) only [wrap64, grd_dec2, Ev.s1 R]
   rw [show (((widthsI d t).1.length : Int) - 1).toNat = t.length - 1 from by omega]
  ·simp only [h, h2, and_false, if_false, List.length_nil, if_true]
   simp
 ·simp only [h, false_and, if_false, List.length_nil]
  simp
end Go.Vsi
end

section
set_option linter.unusedVariables false
set_option linter.unusedSimpArgs false
set_option synthInstance.maxSize 4096
namespace Go.Vsi
theorem has_lp {l : List Int} {a : Int} (hl : l.length <= 1099511627776) : ∀ (ys : List Int) (x : Int), l.drop x.toNat = ys -> 0 <= x -> ∀ (Kx : Nat -> Prop) (Kr : Nat -> Bool -> Prop),
  (Ev (fun n => Z60.l2 n l a x (Kx n) (Kr n)) ↔ if a ∈ ys then Ev (fun n => Kr n true) else Ev Kx)
 | [], x, h, h0, Kx, Kr => by
  have := drop_nil h h0
  refine Ev.suc.trans ?_
  simp (disch := omega) only [Z60.l2, Z60.l2.b, if_neg, decide_eq_true_eq, Ev.s0 Kx, List.not_mem_nil, if_false]
 | y :: ys, x, h, h0, Kx, Kr => by
  obtain ⟨e1, e2, e3⟩ := drop_cons h h0
  refine Ev.suc.trans ?_
  simp (disch := omega) only [Z60.l2, Z60.l2.b, if_pos, decide_eq_true_eq, grd_dec2, e2, wrap64, Ev.iteI, Ev.s1 Kr]
  rw [has_lp hl ys (x + 1) e3 (by omega), Ev.s0 Kx, Ev.s1 Kr]
  by_cases hy : y = a
  ·subst hy; simp
  ·rw [if_neg hy]
   have : a ∈ y :: ys ↔ a ∈ ys := by simp [Ne.symm hy]
   simp only [this]
theorem has_ev {l : List Int} {a : Int} (hl : l.length <= 1099511627776) (R : Nat -> Bool -> Prop) :
  Ev (fun n => Z60.c n l a (R n)) ↔ Ev (fun n => R n (decide (a ∈ l))) := by
 refine Ev.suc.trans ?_
 simp only [Z60.c, Z60.w]
 rw [has_lp hl l 0 rfl (by omega) (fun n => R (n + 1) false) (fun n => R (n + 1)), Ev.s1 R, Ev.s1 R]
 by_cases h : a ∈ l
 ·rw [if_pos h, decide_eq_true h]
 ·rw [if_neg h, decide_eq_false h]
def ins (x : Int) (out : List Int) : List Int := out.filter (fun y => decide (y <= x)) ++ x :: out.filter (fun y => decide (x < y))
def risingGo : List Int -> List Int -> List Int
 | [], out => out
 | x :: r, out => risingGo r (if x ∈ out then out else ins x out)
def rising (l : List Int) : List Int := risingGo l []
def Rises (l : List Int) : Prop := l.Pairwise (· < ·)
theorem Rises.ext : ∀ {a b : List Int}, Rises a -> Rises b -> (∀ y, y ∈ a ↔ y ∈ b) -> a = b
 | [], [], _, _, _ => rfl
 | [], y :: b, _, _, h => by have := (h y).2 List.mem_cons_self; cases this
 | x :: a, [], _, _, h => by have := (h x).1 List.mem_cons_self; cases this
 | x :: a, y :: b, ha, hb, h => by
  rw [Rises, List.pairwise_cons] at ha hb
  have hxy : x = y := by
   have h1 := (h x).1 List.mem_cons_self
   have h2 := (h y).2 List.mem_cons_self
   rcases List.mem_cons.1 h1 with h1 | h1
   ·exact h1
   ·rcases List.mem_cons.1 h2 with h2 | h2
    ·exact h2.symm
    ·have := ha.1 _ h2; have := hb.1 _ h1; omega
  subst hxy
  congr 1
  refine Rises.ext ha.2 hb.2 fun z => ?_
  have hz := h z
  simp only [List.mem_cons] at hz
  constructor
  ·intro hm
   rcases hz.1 (.inr hm) with rfl | h'
   ·have := ha.1 _ hm; omega
   ·exact h'
  ·intro hm
   rcases hz.2 (.inr hm) with rfl | h'
   ·have := hb.1 _ hm; omega
   ·exact h'
end Go.Vsi
end

section
set_option linter.unusedVariables false
set_option linter.unusedSimpArgs false
set_option synthInstance.maxSize 4096
namespace Go.Vsi
def cmp1 (p : Int) : List Int -> List Int
 | [] => []
 | y :: r => if y = p then cmp1 p r else y :: cmp1 y r
def compactL : List Int -> List Int
 | [] => []
 | a :: r => a :: cmp1 a r
theorem mem_cmp1 {z : Int} : ∀ {l : List Int} {p : Int}, z ∈ p :: cmp1 p l ↔ z ∈ p :: l
 | [], _ => Iff.rfl
 | y :: r, p => by
  unfold cmp1
  split
  ·rename_i h
   subst h
   rw [mem_cmp1]; simp
  ·have := mem_cmp1 (z := z) (l := r) (p := y)
   rw [List.mem_cons, this, <- List.mem_cons]
theorem cmp1_rises : ∀ {l : List Int} {p : Int}, (p :: l).Pairwise (· <= ·) -> Rises (p :: cmp1 p l)
 | [], p, _ => by simp [Rises, cmp1]
 | y :: r, p, h => by
  rw [List.pairwise_cons] at h
  have hy := List.pairwise_cons.1 h.2
  unfold cmp1
  split
  ·rename_i e
   subst e
   exact cmp1_rises h.2
  ·rename_i e
   have ih := cmp1_rises h.2
   unfold Rises at ih ⊢
   rw [List.pairwise_cons]
   refine ⟨fun z hz => ?_, ih⟩
   have h1 := h.1 y List.mem_cons_self
   rw [mem_cmp1] at hz
   rcases List.mem_cons.1 hz with rfl | hz
   ·omega
   ·have := hy.1 z hz; omega
theorem mem_compact {z : Int} : ∀ {l : List Int}, z ∈ compactL l ↔ z ∈ l
 | [] => Iff.rfl
 | a :: l => mem_cmp1
theorem compact_rises : ∀ {l : List Int}, l.Pairwise (· <= ·) -> Rises (compactL l)
 | [], _ => List.Pairwise.nil
 | a :: l, h => cmp1_rises h
theorem srt_len (l : List Int) : (srt l).length = l.length := by simp [srt]
theorem mem_srt {z : Int} {l : List Int} : z ∈ srt l ↔ z ∈ l := by simp [srt]
theorem srt_sorted (l : List Int) : (srt l).Pairwise (· <= ·) := by
 have := List.pairwise_mergeSort (le := fun x y : Int => decide (x <= y)) (fun a b c h1 h2 => by simp at *; omega) (fun a b => by simp; omega) l
 exact this.imp fun h => by simpa using h
theorem sorted_once {l l' : List Int} (h : Rises l') (hm : ∀ z, z ∈ l' ↔ z ∈ l) : compactL (srt l) = l' :=
 Rises.ext (compact_rises (srt_sorted l)) h fun z => by rw [mem_compact, mem_srt, hm]
theorem sort_ev {l : List Int} (hl : l.length <= 1099511627776) (R : Nat -> List Int -> Prop) : Ev (fun n => Z51.c n l (R n)) ↔ Ev (fun n => R n (srt l)) := by
 refine Ev.suc.trans ?_
 simp (disch := omega) only [Z51.c, Z51.w, grd_dec, Ev.s1 R]
theorem compact2_lp {s : List Int} (hs : s.length <= 1099511627776) {lo : Nat} : ∀ (ys : List Int) (k2 k : Nat) (row : List Int), s.drop (lo + k2) = ys -> 1 <= k2 -> row.length = s.length -> (∀ i, lo + k2 - 1 <= i -> rd row i = rd s i) -> k <= lo + k2 - 1 -> lo + k2 <= s.length ->
  ∀ Kx : Nat -> Int -> List Int -> Prop, (∀ (k' : Nat) (row' : List Int), row'.length = s.length -> k' <= s.length -> row'.take k' = row.take k ++ cmp1 (rd s (lo + k2 - 1)) ys -> Ev (fun n => Kx n k' row')) ->
  Ev (fun n => Z45.l9 n lo s.length k k2 row (Kx n))
 | [], k2, k, row, h, h1, hl, he, hk, hb, Kx, hx => by
  have := List.drop_eq_nil_iff.1 h
  refine Ev.succ ?_
  simp only [Z45.l9, Z45.l9.b]
  refine Ev.neg (by simp; omega) (hx k row hl (by omega) ?_).shift
  rw [cmp1, List.append_nil]
 | y :: ys, k2, k, row, h, h1, hl, he, hk, hb, Kx, hx => by
  obtain ⟨c1, c2, c3⟩ := drop_cons (x := ((lo + k2 : Nat) : Int)) (by rw [Int.toNat_natCast]; exact h) (by omega)
  rw [Int.toNat_natCast] at c2
  have c3' : s.drop (lo + (k2 + 1)) = ys := by rw [show (((lo + k2 : Nat) : Int) + 1).toNat = lo + (k2 + 1) from by omega] at c3; exact c3
  have r1 := he (lo + k2) (by omega)
  have r2 := he (lo + k2 - 1) (by omega)
  refine Ev.succ ?_
  simp only [Z45.l9, Z45.l9.b]
  rw [wrap64 (x := (k2 : Int) - 1) (by omega) (by omega), wrap64 (x := (k2 : Int) + 1) (by omega) (by omega), wrap64 (x := (k : Int) + 1) (by omega) (by omega)]
  rw [show lo + ((k2 : Int) - 1).toNat = lo + k2 - 1 from by omega, Int.toNat_natCast, Int.toNat_natCast, r1, r2, c2]
  have e2 : (k2 : Int) + 1 = ((k2 + 1 : Nat) : Int) := by omega
  have e1 : (k : Int) + 1 = ((k + 1 : Nat) : Int) := by omega
  rw [e1, e2]
  refine Ev.pos (by simp; omega) (Ev.grd (by simp; omega) (Ev.grd (by simp; omega) ?_))
  by_cases hy : y = rd s (lo + k2 - 1)
  ·refine Ev.neg (by simpa using hy) ?_
   have ep : rd s (lo + (k2 + 1) - 1) = rd s (lo + k2 - 1) := by rw [show lo + (k2 + 1) - 1 = lo + k2 from by omega, c2, hy]
   refine compact2_lp hs ys (k2 + 1) k row c3' (by omega) hl (fun i hi => he i (by omega)) (by omega) (by omega) (fun n => Kx (n + 1)) fun k' row' g1 g2 g3 => (hx k' row' g1 g2 ?_).shift
   rw [g3, ep, cmp1, if_pos hy]
  ·refine Ev.pos (by simpa using hy) (Ev.grd (by simp; omega) (Ev.grd (by simp; omega) ?_))
   have ep : rd s (lo + (k2 + 1) - 1) = y := by rw [show lo + (k2 + 1) - 1 = lo + k2 from by omega, c2]
   refine compact2_lp hs ys (k2 + 1) (k + 1) (row.set k y) c3' (by omega) (by rw [List.length_set]; exact hl) (fun i hi => ?_) (by omega) (by omega) (fun n => Kx (n + 1)) fun k' row' g1 g2 g3 => (hx k' row' g1 g2 ?_).shift
   ·rw [<- he i (by omega)]
    simp only [rd, List.getD_eq_getElem?_getD, List.getElem?_set]
    rw [if_neg (by omega)]
   ·rw [g3, ep, cmp1, if_neg hy]
    have := take_set (l := row) (x := (k : Int)) (v := y) (by omega) (by omega)
    rw [show ((k : Int) + 1).toNat = k + 1 from by omega, Int.toNat_natCast] at this
    rw [this, List.append_assoc]; rfl
theorem compact_lp {s : List Int} (hs : s.length <= 1099511627776) : ∀ (ys : List Int) (k : Nat), s.drop k = ys -> 1 <= k -> k <= s.length -> compactL s = s.take k ++ cmp1 (rd s (k - 1)) ys -> ∀ (Kx : Nat -> List Int -> Prop) (Kr : Nat -> Nat -> Nat -> List Int -> Prop),
  (compactL s = s -> Ev (fun n => Kx n s)) -> (∀ a (k : Nat) (row : List Int), row.take k = compactL s -> Ev (fun n => Kr n a k row)) ->
  Ev (fun n => Z45.l4 n s k (Kx n) (Kr n))
 | [], k, h, h1, hk, hc, Kx, Kr, hx, hr => by
  have := List.drop_eq_nil_iff.1 h
  refine Ev.succ ?_
  simp only [Z45.l4, Z45.l4.b]
  refine Ev.neg (by simp; omega) (hx ?_).shift
  rw [hc, cmp1, List.append_nil, List.take_of_length_le (by omega)]
 | y :: ys, k, h, h1, hk, hc, Kx, Kr, hx, hr => by
  obtain ⟨c1, c2, c3⟩ := drop_cons (x := (k : Int)) (by rw [Int.toNat_natCast]; exact h) (by omega)
  rw [Int.toNat_natCast] at c2
  have c3' : s.drop (k + 1) = ys := by rw [show ((k : Int) + 1).toNat = k + 1 from by omega] at c3; exact c3
  refine Ev.succ ?_
  simp only [Z45.l4, Z45.l4.b]
  rw [wrap64 (x := (k : Int) - 1) (by omega) (by omega), wrap64 (x := (k : Int) + 1) (by omega) (by omega)]
  rw [show ((k : Int) - 1).toNat = k - 1 from by omega, Int.toNat_natCast, Int.toNat_natCast, c2]
  refine Ev.pos (by simp; omega) (Ev.grd (by simp; omega) (Ev.grd (by simp; omega) ?_))
  by_cases hy : y = rd s (k - 1)
  ·refine Ev.pos (by simpa using hy) (Ev.grd (by simp; omega) ?_)
   have ep : rd s (k + 1 - 1) = rd s (k - 1) := by rw [show k + 1 - 1 = k from by omega, c2, hy]
   have := compact2_lp hs (lo := k) ys 1 k s c3' (by omega) rfl (fun _ _ => rfl) (by omega) (by omega) (fun n y65 y66 => grd ((decide (0 <= y65) && true) && decide (y65 <= (y66.length : Int))) (let t67 : List Int := List.take (Int.toNat y65) y66 ++ List.replicate ((Int.toNat (y66.length : Int)) - (Int.toNat y65)) 0 ++ List.drop (Int.toNat (y66.length : Int)) y66; grd ((decide (0 <= y65) && decide (y65 <= (t67.length : Int))) && decide (0 <= y65)) (Kr (n + 1) 0 (Int.toNat y65) t67))) fun k' row' g1 g2 g3 => ?_
   ·exact this
   ·rw [Int.toNat_natCast, Int.toNat_natCast]
    refine Ev.grd (by simp; omega) (Ev.grd (by simp; omega) (hr 0 k' _ ?_).shift)
    rw [List.append_assoc, List.take_left' (by rw [List.length_take]; omega), g3, ep, hc, cmp1, if_pos hy]
  ·refine Ev.neg (by simpa using hy) ?_
   have e1 : (k : Int) + 1 = ((k + 1 : Nat) : Int) := by omega
   rw [e1]
   refine compact_lp hs ys (k + 1) c3' (by omega) (by omega) ?_ (fun n => Kx (n + 1)) (fun n => Kr (n + 1)) (fun e => (hx e).shift) (fun a k row e => (hr a k row e).shift)
   rw [hc, cmp1, if_neg hy, show k + 1 - 1 = k from by omega, c2, List.take_succ_eq_append_getElem (by omega), List.append_assoc]
   have : s[k]'(by omega) = y := by rw [<- c2, rd, List.getD_eq_getElem?_getD, List.getElem?_eq_getElem (by omega)]; rfl
   rw [this]; rfl
theorem compact_wp {s : List Int} (hs : s.length <= 1099511627776) (R : Nat -> List Int -> Prop) (hR : Ev fun n => R n (compactL s)) : Ev (fun n => Z45.c n s (R n)) := by
 refine Ev.succ ?_
 simp only [Z45.c, Z45.w]
 by_cases h : s.length < 2
 ·refine Ev.pos (by simp; omega) ?_
  have : compactL s = s := by
   match s, h with
   | [], _ => rfl
   | [a], _ => rfl
  rw [this] at hR; exact hR.shift
 ·refine Ev.neg (by simp; omega) ?_
  refine compact_lp hs (s.drop 1) 1 rfl (by omega) (by omega) ?_ (fun n => R (n + 1)) (fun n y73 y74 y75 => R (n + 1) (List.take y74 y75)) (fun e => by rw [e] at hR; exact hR.shift) (fun a k row e => by rw [e]; exact hR.shift)
  match s, h with
  | a :: b, _ => rfl
end Go.Vsi
end

section
set_option linter.unusedVariables false
set_option linter.unusedSimpArgs false
set_option synthInstance.maxSize 4096
namespace Go.Vsi
def hasV (t : List tTNode) (v : Int) : Bool := t.any fun x => decide (x.1 = 1) && decide (x.2.1 = v)
def varsUp (t : List tTNode) : Nat -> Int -> List Int
 | 0, _ => []
 | m + 1, v => if hasV t v = true then v :: varsUp t m (v + 1) else varsUp t m (v + 1)
def vsT : List tTNode -> List Int
 | [] => []
 | x :: r => if x.1 = 1 then x.2.1 :: vsT r else vsT r
def varsP (d : List tDecl) (t : List tTNode) : List Int := varsUp t d.length 0
def varsOf (d : List tDecl) (t : List tTNode) : List Int := if widthOf d t < 0 then [] else varsP d t
theorem mem_varsUp {t : List tTNode} {z : Int} : ∀ {m : Nat} {v : Int}, z ∈ varsUp t m v ↔ v <= z /\ z < v + m /\ hasV t z = true
 | 0, v => by simp [varsUp]; omega
 | m + 1, v => by
  have ih := mem_varsUp (t := t) (z := z) (m := m) (v := v + 1)
  unfold varsUp
  by_cases h : hasV t v = true
  ·rw [if_pos h, List.mem_cons, ih]
   constructor
   ·rintro (rfl | ⟨h1, h2, h3⟩)
    ·exact ⟨by omega, by omega, h⟩
    ·exact ⟨by omega, by omega, h3⟩
   ·rintro ⟨h1, h2, h3⟩
    by_cases e : z = v
    ·exact .inl e
    ·exact .inr ⟨by omega, by omega, h3⟩
  ·rw [if_neg h, ih]
   constructor
   ·rintro ⟨h1, h2, h3⟩; exact ⟨by omega, by omega, h3⟩
   ·rintro ⟨h1, h2, h3⟩
    have : z ≠ v := fun e => h (e ▸ h3)
    exact ⟨by omega, by omega, h3⟩
theorem varsUp_rises {t : List tTNode} : ∀ {m : Nat} {v : Int}, Rises (varsUp t m v)
 | 0, v => List.Pairwise.nil
 | m + 1, v => by
  have ih := varsUp_rises (t := t) (m := m) (v := v + 1)
  unfold varsUp
  split
  ·unfold Rises at ih ⊢
   rw [List.pairwise_cons]
   exact ⟨fun z hz => by have := (mem_varsUp.1 hz).1; omega, ih⟩
  ·exact ih
theorem varsUp_len {t : List tTNode} : ∀ {m : Nat} {v : Int}, (varsUp t m v).length <= m
 | 0, v => Nat.le_refl _
 | m + 1, v => by
  have := varsUp_len (t := t) (m := m) (v := v + 1)
  unfold varsUp
  split
  ·rw [List.length_cons]; omega
  ·omega
theorem mem_vsT {z : Int} : ∀ {t : List tTNode}, z ∈ vsT t ↔ hasV t z = true
 | [] => by simp [vsT, hasV]
 | x :: r => by
  have ih := mem_vsT (z := z) (t := r)
  have hc : hasV (x :: r) z = true ↔ (x.1 = 1 /\ x.2.1 = z) \/ hasV r z = true := by
   unfold hasV
   rw [List.any_cons, Bool.or_eq_true, Bool.and_eq_true, decide_eq_true_eq, decide_eq_true_eq]
  rw [hc]
  unfold vsT
  split
  ·rename_i h
   rw [List.mem_cons, ih]
   exact or_congr ⟨fun e => ⟨h, e.symm⟩, fun e => e.2.symm⟩ Iff.rfl
  ·rename_i h
   rw [ih]
   exact ⟨.inr, fun e => e.elim (fun e => absurd e.1 h) id⟩
theorem vsT_len : ∀ {t : List tTNode}, (vsT t).length <= t.length
 | [] => Nat.le_refl _
 | x :: r => by
  have := vsT_len (t := r)
  unfold vsT
  split
  ·simp only [List.length_cons]; omega
  ·simp only [List.length_cons]; omega
theorem widthsGo_vars {d : List tDecl} : ∀ {ys : List tTNode} {wide : List Int} {used : List Bool} {r : List Int × List Bool}, widthsGo d ys wide used = some r -> ∀ x ∈ ys, x.1 = 1 -> 0 <= x.2.1 /\ x.2.1 < (d.length : Int)
 | [], _, _, _, _, x, hx, _ => by cases hx
 | y :: ys, wide, used, r, h, x, hx, h1 => by
  rw [widthsGo] at h
  cases hs : stepW d y wide with
  | none => rw [hs] at h; cases h
  | some w =>
   rw [hs] at h
   rcases List.mem_cons.1 hx with rfl | hx
   ·unfold stepW at hs
    split at hs
    ·rename_i hk
     have h2 := hk.2.2
     unfold kindB at h2
     rw [decide_eq_true_eq] at h2
     omega
    ·cases hs
   ·exact widthsGo_vars h x hx h1
theorem width_vars {d : List tDecl} {t : List tTNode} (h : ¬ widthI d t < 0) : (∀ x ∈ t, x.1 = 1 -> 0 <= x.2.1 /\ x.2.1 < (d.length : Int)) /\ t.length <= 400 := by
 unfold widthI at h
 by_cases h2 : (widthsI d t).2 = true
 rotate_left
 ·rw [if_neg h2] at h; omega
 have hle := (widthsI_ok h2).2.2.2
 refine ⟨?_, hle⟩
 unfold widthsI at h2
 split at h2
 ·cases hg : widthsGo d t [] (List.replicate t.length false) with
  | none => rw [hg] at h2; cases h2
  | some r => exact widthsGo_vars hg
 ·cases h2
theorem vars_one {d : List tDecl} {t : List tTNode} (h : ¬ widthI d t < 0) : compactL (srt (vsT t)) = varsP d t := by
 refine sorted_once varsUp_rises fun z => ?_
 unfold varsP
 rw [mem_varsUp, mem_vsT]
 refine ⟨fun hz => hz.2.2, fun hz => ?_⟩
 have hz' := hz
 unfold hasV at hz'
 rw [List.any_eq_true] at hz'
 obtain ⟨x, hx, e⟩ := hz'
 rw [Bool.and_eq_true, decide_eq_true_eq, decide_eq_true_eq] at e
 have := (width_vars h).1 x hx e.1
 rw [e.2] at this
 exact ⟨by omega, by omega, hz⟩
theorem vsI_lp {t : List tTNode} (ht : t.length <= 1048576) : ∀ (ys : List tTNode) (x : Int) (o : List Int), t.drop x.toNat = ys -> 0 <= x -> o.length + ys.length <= 1048576 -> ∀ (Kx : Nat -> List Int -> Prop),
  Ev (fun n => Kx n (o ++ vsT ys)) -> Ev (fun n => Z11.l3 n t t.length x o (Kx n))
 | [], x, o, h, h0, ho, Kx, hx => by
  have := drop_nil h h0
  refine Ev.succ ?_
  simp only [Z11.l3, Z11.l3.b]
  rw [vsT, List.append_nil] at hx
  exact Ev.neg (by simp; omega) hx.shift
 | y :: ys, x, o, h, h0, ho, Kx, hx => by
  obtain ⟨e1, e2, e3⟩ := drop_cons h h0
  rw [List.length_cons] at ho
  refine Ev.succ ?_
  simp only [Z11.l3, Z11.l3.b]
  rw [e2, wrap64 (x := x + 1) (by omega) (by omega)]
  unfold vsT at hx
  refine Ev.pos (by simp; omega) (Ev.grd (by simp; omega) ?_)
  by_cases h1 : y.1 = 1
  ·rw [if_pos h1] at hx
   refine Ev.pos (by simpa using h1) (Ev.grd (by simp; omega) (vsI_lp ht ys (x + 1) (o ++ [y.2.1]) e3 (by omega) (by simp; omega) (fun n => Kx (n + 1)) ?_))
   rw [List.append_assoc]; exact hx.shift
  ·rw [if_neg h1] at hx
   exact Ev.neg (by simpa using h1) (vsI_lp ht ys (x + 1) o e3 (by omega) (by omega) (fun n => Kx (n + 1)) hx.shift)
theorem vsI_wp {t : List tTNode} (ht : t.length <= 1048576) (R : Nat -> List Int -> Prop) (hR : Ev fun n => R n (compactL (srt (vsT t)))) : Ev (fun n => Z11.c n t (R n)) := by
 have hv := vsT_len (t := t)
 refine Ev.succ ?_
 simp only [Z11.c, Z11.w]
 refine vsI_lp ht t 0 [] rfl (by omega) (by simp; omega) (fun n y19 => _) ?_
 rw [List.nil_append, sort_ev (by omega)]
 exact compact_wp (by rw [srt_len]; omega) _ hR.shift
theorem varS_lp {d : List tDecl} {v : Int} {o : List Int} (ho : o.length <= 1048576) {t : List tTNode} (ht : t.length <= 1048576) : ∀ (ys : List tTNode) (x : Int), t.drop x.toNat = ys -> 0 <= x -> ∀ Kx : Nat -> List tDecl -> Int -> List Int -> List tTNode -> Prop,
  Ev (fun n => Kx n d v (if hasV ys v = true then o ++ [v] else o) t) -> Ev (fun n => Z55.l8 n d v o t x (Kx n))
 | [], x, h, h0, Kx, hx => by
  have := drop_nil h h0
  refine Ev.succ ?_
  simp only [Z55.l8, Z55.l8.b]
  exact Ev.neg (by simp; omega) hx.shift
 | y :: ys, x, h, h0, Kx, hx => by
  obtain ⟨e1, e2, e3⟩ := drop_cons h h0
  have ih := varS_lp ho ht ys (x + 1) e3 (by omega) (fun n => Kx (n + 1)) (d := d) (v := v) (o := o)
  refine Ev.succ ?_
  simp only [Z55.l8, Z55.l8.b, Z55.j1]
  rw [e2, wrap64 (x := x + 1) (by omega) (by omega)]
  simp only [hasV, List.any_cons] at hx
  refine Ev.pos (by simp; omega) (Ev.grd (by simp; omega) ?_)
  by_cases h1 : y.1 = 1
  ·refine Ev.pos (by simpa using h1) (Ev.grd (by simp; omega) ?_)
   by_cases h2 : y.2.1 = v
   ·refine Ev.pos (by simpa using h2) (Ev.grd (by simp; omega) ?_)
    simp only [h1, h2, decide_true, Bool.and_self, Bool.true_or, if_true] at hx
    exact hx.shift
   ·refine Ev.neg (by simpa using h2) (ih ?_)
    simp only [h1, h2, decide_true, decide_false, Bool.and_false, Bool.false_or] at hx
    exact hx.shift
  ·refine Ev.neg (by simpa using h1) (Ev.neg (by simp) (ih ?_))
   simp only [h1, decide_false, Bool.false_and, Bool.false_or] at hx
   exact hx.shift
theorem varsS_lp {d : List tDecl} (hd : d.length <= 1048576) {t : List tTNode} (ht : t.length <= 1048576) : ∀ (m : Nat) (v : Int) (o : List Int), v + m = d.length -> 0 <= v -> o.length <= v -> ∀ Kx : Nat -> List Int -> Prop,
  Ev (fun n => Kx n (o ++ varsUp t m v)) -> Ev (fun n => Z55.l5 n d v o t (Kx n))
 | 0, v, o, h, h0, ho, Kx, hx => by
  refine Ev.succ ?_
  simp only [Z55.l5, Z55.l5.b]
  rw [varsUp, List.append_nil] at hx
  exact Ev.neg (by simp; omega) hx.shift
 | m + 1, v, o, h, h0, ho, Kx, hx => by
  refine Ev.succ ?_
  simp only [Z55.l5, Z55.l5.b]
  refine Ev.pos (by simp; omega) (varS_lp (by omega) ht t 0 rfl (by omega) (fun n y47 y48 y49 y50 => _) ?_)
  rw [wrap64 (x := v + 1) (by omega) (by omega)]
  unfold varsUp at hx
  by_cases hv : hasV t v = true
  ·rw [if_pos hv] at hx ⊢
   refine varsS_lp hd ht m (v + 1) (o ++ [v]) (by omega) (by omega) (by simp; omega) (fun n => Kx (n + 1)) ?_
   rw [List.append_assoc]; exact hx.shift
  ·rw [if_neg hv] at hx ⊢
   exact varsS_lp hd ht m (v + 1) o (by omega) (by omega) (by omega) (fun n => Kx (n + 1)) hx.shift
theorem varsS_wp {d : List tDecl} {t : List tTNode} (hd : d.length <= 1048576) (hg : ∀ x : tTNode, x ∈ t -> Wd x.2.2.2.2.2.1 /\ x.2.2.2.2.2.2.length <= 1099511627776) (R : Nat -> List Int -> Prop) (hR : Ev fun n => R n (varsOf d t)) : Ev (fun n => Z55.c n d t (R n)) := by
 refine Ev.succ ?_
 simp only [Z55.c, Z55.w]
 rw [widthOfS_ev (by omega) hg]
 unfold varsOf at hR
 by_cases h : widthOf d t < 0
 ·rw [if_pos h] at hR
  exact Ev.pos (by simpa using h) hR.shift
 ·rw [if_neg h] at hR
  have hi : ¬ widthI d t < 0 := by
   unfold widthOf at h
   split at h
   ·exact h
   ·omega
  have hl := (width_vars hi).2
  refine Ev.neg (by simpa using h) (varsS_lp hd (by omega) d.length 0 [] (by omega) (by omega) (by simp) (fun n y52 => R (n + 1) y52) ?_)
  rw [List.nil_append]; exact hR.shift
end Go.Vsi
end

section
set_option linter.unusedVariables false
set_option linter.unusedSimpArgs false
set_option synthInstance.maxSize 4096
namespace Go.Vsi
def bindB (d : List tDecl) (y : tBinding) : Bool := decide (0 <= y.1 /\ y.1 <= (d.length : Int) - 1) && decide (widthI d y.2 = (rd d y.1.toNat).2)
theorem bindable_ev {d : List tDecl} {y : tBinding} (hd : d.length <= 1048576) (R : Nat -> Bool -> Prop) :
  Ev (fun n => Z6.c n d y.1 y.2 (R n)) ↔ Ev (fun n => R n (bindB d y)) := by
 have ew : IntKind.wrap .i64 ((d.length : Int) - 1) = (d.length : Int) - 1 := wrap64 (by omega) (by omega)
 have wi := fun R => widthI_ev (d := d) (t := y.2) (by omega) R
 refine Ev.suc.trans ?_
 simp only [Z6.c, Z6.w, inside_ev, ew, Ev.iteI, decide_eq_true_eq, and_self, bindB]
 by_cases h : 0 <= y.1 /\ y.1 <= (d.length : Int) - 1
 ·rw [if_pos h, decide_eq_true h, Bool.true_and]
  simp (disch := omega) only [grd_dec2, and_self, wi]
  exact Ev.s1 R _
 ·rw [if_neg h, decide_eq_false h, Bool.false_and]
  exact Ev.s1 R _
theorem fitsS_ev {d : List tDecl} {y : tBinding} (hd : d.length <= 1048576) (hdo : declsOk d = true) (hy : ∀ x : tTNode, x ∈ y.2 -> Wd x.2.2.2.2.2.1 /\ x.2.2.2.2.2.2.length <= 1099511627776) (R : Nat -> Bool -> Prop) :
  Ev (fun n => Z57.c n d y.1 y.2 (R n)) ↔ Ev (fun n => R n (bindB d y)) := by
 have ew : IntKind.wrap .i64 ((d.length : Int) - 1) = (d.length : Int) - 1 := wrap64 (by omega) (by omega)
 have wi := fun R => widthOfS_ev (d := d) (t := y.2) (by omega) hy R
 have e : widthOf d y.2 = widthI d y.2 := by rw [widthOf, if_pos hdo]
 rw [e] at wi
 refine Ev.suc.trans ?_
 simp only [Z57.c, Z57.w, declsOkS_ev, hdo, if_true, l1In_ev, ew, Ev.iteI, decide_eq_true_eq, and_self, bindB]
 by_cases h : 0 <= y.1 /\ y.1 <= (d.length : Int) - 1
 ·rw [if_pos h, decide_eq_true h, Bool.true_and]
  simp (disch := omega) only [grd_dec2, and_self, wi]
  exact Ev.s1 R _
 ·rw [if_neg h, decide_eq_false h, Bool.false_and]
  exact Ev.s1 R _
def straightGo (d : List tDecl) : List tBinding -> List Int -> Bool
 | [], _ => true
 | y :: r, seen => bindB d y && !(decide (y.1 ∈ seen)) && !((seen ++ [y.1]).any fun v => decide (v ∈ varsP d y.2)) && straightGo d r (seen ++ [y.1])
def straight (d : List tDecl) (l : List tBinding) : Bool := declsOk d && straightGo d l []
theorem declsGo_wide : ∀ {ys pre : List tDecl} {t : Int}, declsGo pre ys t = true -> ∀ y ∈ ys, 1 <= y.2
 | [], _, _, _, y, hy => by cases hy
 | x :: ys, pre, t, h, y, hy => by
  rw [declsGo] at h
  simp only [Bool.and_eq_true, decide_eq_true_eq] at h
  rcases List.mem_cons.1 hy with rfl | hy
  ·omega
  ·exact declsGo_wide h.2 y hy
theorem declsOk_wide {d : List tDecl} (h : declsOk d = true) : d.length <= 60 /\ ∀ y ∈ d, 1 <= y.2 := by
 unfold declsOk at h
 rw [Bool.and_eq_true, decide_eq_true_eq] at h
 exact ⟨h.1, declsGo_wide h.2⟩
theorem rd_memX {α : Type} [Inhabited α] {l : List α} {i : Nat} (h : i < l.length) : rd l i ∈ l := by
 rw [rd, List.getD_eq_getElem?_getD, List.getElem?_eq_getElem h]; exact List.getElem_mem _
theorem bind_wide {d : List tDecl} {y : tBinding} (hd : declsOk d = true) (h : bindB d y = true) : 0 <= y.1 /\ y.1 < (d.length : Int) /\ ¬ widthI d y.2 < 0 := by
 unfold bindB at h
 rw [Bool.and_eq_true, decide_eq_true_eq, decide_eq_true_eq] at h
 have := (declsOk_wide hd).2 _ (rd_memX (l := d) (i := y.1.toNat) (by omega))
 exact ⟨by omega, by omega, by omega⟩
theorem nodup_leX {α : Type} [DecidableEq α] : ∀ {a b : List α}, a.Nodup -> (∀ x ∈ a, x ∈ b) -> a.length <= b.length
 | [], b, _, _ => by simp
 | x :: a, b, hn, h => by
  rw [List.nodup_cons] at hn
  have hx := h x List.mem_cons_self
  have ih := nodup_leX (a := a) (b := b.erase x) hn.2 fun y hy => by
   have hne : y ≠ x := by rintro rfl; exact hn.1 hy
   exact (List.mem_erase_of_ne hne).2 (h y (List.mem_cons_of_mem _ hy))
  rw [List.length_erase_of_mem hx] at ih
  have := List.length_pos_of_mem hx
  rw [List.length_cons]; omega
def SeenOk (d : List tDecl) (seen : List Int) : Prop := seen.Nodup /\ ∀ v ∈ seen, 0 <= v /\ v < (d.length : Int)
theorem SeenOk.le {d : List tDecl} {seen : List Int} (h : SeenOk d seen) : seen.length <= d.length := by
 have := nodup_leX (b := (List.range d.length).map fun i : Nat => (i : Int)) h.1 fun v hv => by
  have := h.2 v hv
  rw [List.mem_map]
  exact ⟨v.toNat, by rw [List.mem_range]; omega, by omega⟩
 simpa using this
theorem SeenOk.app {d : List tDecl} {seen : List Int} {v : Int} (h : SeenOk d seen) (hv : 0 <= v /\ v < (d.length : Int)) (hn : v ∉ seen) : SeenOk d (seen ++ [v]) := by
 refine ⟨?_, fun u hu => ?_⟩
 ·rw [List.nodup_append]
  refine ⟨h.1, by simp, fun a ha b hb => ?_⟩
  rw [List.mem_singleton] at hb
  rintro rfl; exact hn (hb ▸ ha)
 ·rcases List.mem_append.1 hu with hu | hu
  ·exact h.2 u hu
  ·rw [List.mem_singleton.1 hu]; exact hv
theorem straight_le {d : List tDecl} (hd : declsOk d = true) : ∀ {l : List tBinding} {seen : List Int}, SeenOk d seen -> straightGo d l seen = true -> seen.length + l.length <= d.length
 | [], seen, hs, _ => by have := hs.le; simpa using this
 | y :: r, seen, hs, h => by
  rw [straightGo] at h
  simp only [Bool.and_eq_true, Bool.not_eq_true', decide_eq_false_iff_not] at h
  have hb := bind_wide hd h.1.1.1
  have := straight_le hd (hs.app ⟨hb.1, hb.2.1⟩ h.1.1.2) h.2
  simp only [List.length_append, List.length_cons, List.length_nil] at this ⊢; omega
theorem strI1_ev {bound : List Bool} {y : Int} (h : 0 <= y /\ y < (bound.length : Int)) (R : Nat -> Bool -> Prop) : Ev (fun n => Z3.c n y bound (R n)) ↔ Ev (fun n => R n (rd bound y.toNat)) := by
 refine Ev.suc.trans ?_
 simp (disch := omega) only [Z3.c, Z3.w, grd_dec2, Ev.s1 R]
theorem Z49_lp {l : List Int} {bound : List Bool} (hl : l.length <= 1099511627776) : ∀ (ys : List Int) (x : Int), l.drop x.toNat = ys -> 0 <= x -> (∀ y : Int, y ∈ ys -> 0 <= y /\ y < (bound.length : Int)) ->
  ∀ (Kx : Nat -> Prop) (Kr : Nat -> Int -> Prop),
  (Ev (fun n => Z49.l2 n l bound l.length x (Kx n) (Kr n)) ↔ if firstIx (fun y => rd bound y.toNat) ys x < 0 then Ev Kx else Ev (fun n => Kr n (firstIx (fun y => rd bound y.toNat) ys x)))
 | [], x, h, h0, hy, Kx, Kr => by
  have := drop_nil h h0
  rw [firstIx, if_pos (by decide)]
  refine Ev.suc.trans ?_
  simp (disch := omega) only [Z49.l2, Z49.l2.b, if_neg, decide_eq_true_eq, Ev.s0 Kx]
 | y :: ys, x, h, h0, hy, Kx, Kr => by
  obtain ⟨e1, e2, e3⟩ := drop_cons h h0
  have hy0 := hy y List.mem_cons_self
  refine Ev.suc.trans ?_
  simp (disch := first | omega | assumption) only [Z49.l2, Z49.l2.b, if_pos, decide_eq_true_eq, grd_dec2, e2, wrap64, Ev.s1 Kr, strI1_ev, Ev.iteI]
  rw [Z49_lp hl ys (x + 1) e3 (by omega) (fun y hy' => hy y (List.mem_cons_of_mem _ hy')), Ev.s0 Kx, Ev.s1 Kr]
  simp only [firstIx, decide_eq_true_eq]
  split
  ·rw [if_neg (by omega)]
  ·rfl
theorem Z49_ev {l : List Int} {bound : List Bool} (hl : l.length <= 1099511627776) (hy : ∀ y : Int, y ∈ l -> 0 <= y /\ y < (bound.length : Int)) (R : Nat -> Int -> Prop) :
  Ev (fun n => Z49.c n l bound (R n)) ↔ Ev (fun n => R n (firstIx (fun y => rd bound y.toNat) l 0)) := by
 refine Ev.suc.trans ?_
 simp only [Z49.c, Z49.w]
 rw [Z49_lp hl l 0 rfl (by omega) hy, Ev.s1 R, Ev.s1 R]
 split
 ·rw [firstIx_neg (by omega) ‹_›]
 ·rfl
theorem Z46_ev {l : List Int} {bound : List Bool} (hl : l.length <= 1099511627776) (hy : ∀ y : Int, y ∈ l -> 0 <= y /\ y < (bound.length : Int)) (R : Nat -> Bool -> Prop) :
  Ev (fun n => Z46.c n l bound (R n)) ↔ Ev (fun n => R n (l.any fun y => rd bound y.toNat)) := by
 refine Ev.suc.trans ?_
 simp only [Z46.c, Z46.w]
 rw [Z49_ev hl hy, Ev.s1 R, firstIx_any (by omega)]
def Marks (d : List tDecl) (bound : List Bool) (seen : List Int) : Prop := bound.length = d.length /\ ∀ v : Int, 0 <= v -> v < (d.length : Int) -> rd bound v.toNat = decide (v ∈ seen)
theorem Marks.app {d : List tDecl} {bound : List Bool} {seen : List Int} {v : Int} (h : Marks d bound seen) (hv : 0 <= v /\ v < (d.length : Int)) : Marks d (bound.set v.toNat true) (seen ++ [v]) := by
 have hl := h.1
 refine ⟨by rw [List.length_set]; exact h.1, fun u h0 h1 => ?_⟩
 by_cases e : u = v
 ·rw [e, rd_set (by omega)]; simp
 ·have e2 : rd (bound.set v.toNat true) u.toNat = rd bound u.toNat := by
   simp only [rd, List.getD_eq_getElem?_getD, List.getElem?_set]
   rw [if_neg (by omega)]
  rw [e2, h.2 u h0 h1]; simp [e]
theorem marks_any {d : List tDecl} {bound : List Bool} {seen : List Int} (h : Marks d bound seen) {t : List tTNode} (hs : ∀ v ∈ seen, 0 <= v /\ v < (d.length : Int)) : ((varsP d t).any fun y => rd bound y.toNat) = (seen.any fun v => decide (v ∈ varsP d t)) := by
 rw [Bool.eq_iff_iff, List.any_eq_true, List.any_eq_true]
 constructor
 ·rintro ⟨y, hy, e⟩
  have := mem_varsUp.1 hy
  rw [h.2 y (by omega) (by omega), decide_eq_true_eq] at e
  exact ⟨y, e, by rw [decide_eq_true_eq]; exact hy⟩
 ·rintro ⟨v, hv, e⟩
  rw [decide_eq_true_eq] at e
  have := hs v hv
  exact ⟨v, e, by rw [h.2 v this.1 this.2, decide_eq_true_eq]; exact hv⟩
theorem straightI_lp {d : List tDecl} (hd : declsOk d = true) {l : List tBinding} (hl : l.length <= 1048576) : ∀ (ys : List tBinding) (x : Int) (seen : List Int) (bound : List Bool), l.drop x.toNat = ys -> 0 <= x -> SeenOk d seen -> Marks d bound seen -> ∀ (Kx : Nat -> Prop) (Kr : Nat -> Bool -> Prop),
  (straightGo d ys seen = true -> Ev Kx) -> (straightGo d ys seen = false -> Ev (fun n => Kr n false)) -> Ev (fun n => Z2.l5 n d l l.length x bound (Kx n) (Kr n))
 | [], x, seen, bound, h, h0, hs, hm, Kx, Kr, k1, k2 => by
  have := drop_nil h h0
  refine Ev.succ ?_
  simp only [Z2.l5, Z2.l5.b]
  exact Ev.neg (by simp; omega) (k1 rfl).shift
 | y :: ys, x, seen, bound, h, h0, hs, hm, Kx, Kr, k1, k2 => by
  obtain ⟨e1, e2, e3⟩ := drop_cons h h0
  have hd60 := (declsOk_wide hd).1
  have hml := hm.1
  rw [straightGo] at k1 k2
  refine Ev.succ ?_
  simp only [Z2.l5, Z2.l5.b, Z2.j3]
  rw [e2, wrap64 (x := x + 1) (by omega) (by omega)]
  refine Ev.pos (by simp; omega) (Ev.grd (by simp; omega) ?_)
  rw [bindable_ev (by omega)]
  by_cases hb : bindB d y = true
  rotate_left
  ·exact Ev.neg (by simpa using hb) (k2 (by simp [hb])).shift
  have hw := bind_wide hd hb
  refine Ev.pos (by simpa using hb) (Ev.grd (by simp; omega) ?_)
  rw [hm.2 y.1 hw.1 hw.2.1]
  by_cases hn : y.1 ∈ seen
  ·exact Ev.pos (by simpa using hn) (k2 (by simp [hn])).shift
  refine Ev.neg (by simpa using hn) (Ev.grd (by simp; omega) ?_)
  have hwv := width_vars hw.2.2
  refine vsI_wp (by omega) _ ?_
  rw [vars_one hw.2.2]
  have hs2 := hs.app ⟨hw.1, hw.2.1⟩ hn
  have hm2 := hm.app (v := y.1) ⟨hw.1, hw.2.1⟩
  have hvl : (varsP d y.2).length <= d.length := varsUp_len
  rw [Z46_ev (by omega) (fun z hz => by
   have := mem_varsUp.1 hz
   rw [List.length_set]; exact ⟨by omega, by omega⟩), marks_any hm2 hs2.2]
  by_cases ha : ((seen ++ [y.1]).any fun v => decide (v ∈ varsP d y.2)) = true
  ·rw [ha]
   exact Ev.pos rfl (k2 (by rw [ha]; simp)).shift
  ·have ha' : ((seen ++ [y.1]).any fun v => decide (v ∈ varsP d y.2)) = false := by simpa using ha
   rw [ha']
   refine Ev.neg (by simp) (straightI_lp hd hl ys (x + 1) _ _ e3 (by omega) hs2 hm2 (fun n => Kx (n + 1)) (fun n => Kr (n + 1)) (fun e => (k1 ?_).shift) (fun e => (k2 ?_).shift))
   ·rw [ha', e, hb]; simp [hn]
   ·rw [e]; simp
theorem straightI_wp {d : List tDecl} {l : List tBinding} (hd : d.length <= 1048576) (hl : l.length <= 1048576) (R : Nat -> Bool -> Prop) (hR : Ev fun n => R n (straight d l)) : Ev (fun n => Z2.c n d l (R n)) := by
 unfold straight at hR
 refine Ev.succ ?_
 simp only [Z2.c, Z2.w, Z2.j4]
 rw [declsOk_ev]
 by_cases h : declsOk d = true
 rotate_left
 ·have : declsOk d = false := by simpa using h
  rw [this, Bool.false_and] at hR
  exact Ev.neg (by simpa using h) hR.shift
 rw [h, Bool.true_and] at hR
 have h0 : SeenOk d [] := ⟨List.nodup_nil, fun v hv => by cases hv⟩
 refine Ev.pos (by simpa using h) ?_
 by_cases hle : (l.length : Int) > d.length
 ·refine Ev.pos (by simpa using hle) ?_
  have : straightGo d l [] = false := by
   rw [Bool.eq_false_iff]; intro e
   have := straight_le h h0 e
   simp at this; omega
  rw [this] at hR; exact hR.shift
 ·refine Ev.neg (by simpa using hle) (Ev.grd (by simp; omega) ?_)
  rw [Int.toNat_natCast]
  refine straightI_lp h hl l 0 [] _ rfl (by omega) h0 ⟨by simp, fun v h0 h1 => ?_⟩ (fun n => R (n + 1) true) (fun n => R (n + 1)) (fun e => by rw [e] at hR; exact hR.shift) (fun e => by rw [e] at hR; exact hR.shift)
  rw [rd, List.getD_eq_getElem?_getD, List.getElem?_replicate, if_pos (by omega)]; simp
end Go.Vsi
end

section
set_option linter.unusedVariables false
set_option linter.unusedSimpArgs false
set_option synthInstance.maxSize 4096
namespace Go.Vsi
theorem fitsS_no {d : List tDecl} {v : Int} {t : List tTNode} (hdo : declsOk d = false) (R : Nat -> Bool -> Prop) (hR : Ev fun n => R n false) : Ev (fun n => Z57.c n d v t (R n)) := by
 refine Ev.succ ?_
 simp only [Z57.c, Z57.w, and_self]
 rw [declsOkS_ev, hdo]
 exact Ev.neg (by simp) hR.shift
theorem seenS_lp {d : List tDecl} {l : List tBinding} {x : Int} {seen vars : List Int} (hv : vars.length <= 1099511627776) (hs : seen.length <= 1048576) : ∀ (ys : List Int) (k : Int), seen.drop k.toNat = ys -> 0 <= k -> ∀ (Kx : Nat -> List tDecl -> List tBinding -> Int -> List Int -> Prop) (Kr : Nat -> Bool -> Prop),
  ((ys.any fun v => decide (v ∈ vars)) = false -> Ev (fun n => Kx n d l x seen)) -> ((ys.any fun v => decide (v ∈ vars)) = true -> Ev (fun n => Kr n false)) ->
  Ev (fun n => Z54.l11 n d l x seen vars k (Kx n) (Kr n))
 | [], k, h, h0, Kx, Kr, k1, k2 => by
  have := drop_nil h h0
  refine Ev.succ ?_
  simp only [Z54.l11, Z54.l11.b]
  exact Ev.neg (by simp; omega) (k1 rfl).shift
 | y :: ys, k, h, h0, Kx, Kr, k1, k2 => by
  obtain ⟨e1, e2, e3⟩ := drop_cons h h0
  refine Ev.succ ?_
  simp only [Z54.l11, Z54.l11.b]
  rw [e2, wrap64 (x := k + 1) (by omega) (by omega)]
  rw [List.any_cons] at k1 k2
  refine Ev.pos (by simp; omega) (Ev.grd (by simp; omega) ?_)
  rw [has_ev hv]
  by_cases hm : y ∈ vars
  ·exact Ev.pos (by simpa using hm) (k2 (by simp [hm])).shift
  ·have e : decide (y ∈ vars) = false := by simpa using hm
   rw [e, Bool.false_or] at k1 k2
   exact Ev.neg (by simpa using hm) (seenS_lp hv hs ys (k + 1) e3 (by omega) (fun n => Kx (n + 1)) (fun n => Kr (n + 1)) (fun e => (k1 e).shift) (fun e => (k2 e).shift))
theorem straightS_lp {d : List tDecl} (hd : declsOk d = true) {l : List tBinding} (hl : l.length <= 1048576) (hy : ∀ y ∈ l, ∀ x : tTNode, x ∈ y.2 -> Wd x.2.2.2.2.2.1 /\ x.2.2.2.2.2.2.length <= 1099511627776) : ∀ (ys : List tBinding) (x : Int) (seen : List Int), l.drop x.toNat = ys -> 0 <= x -> seen.length <= x -> ∀ (Kx : Nat -> List tDecl -> Prop) (Kr : Nat -> Bool -> Prop),
  (straightGo d ys seen = true -> Ev (fun n => Kx n d)) -> (straightGo d ys seen = false -> Ev (fun n => Kr n false)) -> Ev (fun n => Z54.l3 n d l x seen (Kx n) (Kr n))
 | [], x, seen, h, h0, hs, Kx, Kr, k1, k2 => by
  have := drop_nil h h0
  refine Ev.succ ?_
  simp only [Z54.l3, Z54.l3.b]
  exact Ev.neg (by simp; omega) (k1 rfl).shift
 | y :: ys, x, seen, h, h0, hs, Kx, Kr, k1, k2 => by
  obtain ⟨e1, e2, e3⟩ := drop_cons h h0
  have hd60 := (declsOk_wide hd).1
  have hty := hy y (e2 ▸ rd_memX (by omega))
  rw [straightGo] at k1 k2
  refine Ev.succ ?_
  simp only [Z54.l3, Z54.l3.b, Z54.j3]
  rw [e2]
  refine Ev.pos (by simp; omega) (Ev.grd (by simp; omega) ?_)
  rw [fitsS_ev (by omega) hd hty]
  by_cases hb : bindB d y = true
  rotate_left
  ·exact Ev.neg (by simpa using hb) (k2 (by simp [hb])).shift
  have hw := bind_wide hd hb
  refine Ev.pos (by simpa using hb) ?_
  rw [has_ev (by omega)]
  by_cases hn : y.1 ∈ seen
  ·exact Ev.pos (by simpa using hn) (k2 (by simp [hn])).shift
  refine Ev.neg (by simpa using hn) (Ev.grd (by simp; omega) ?_)
  refine varsS_wp (by omega) hty _ ?_
  have ev : varsOf d y.2 = varsP d y.2 := by
   unfold varsOf widthOf
   rw [if_pos hd, if_neg hw.2.2]
  rw [ev]
  have hvl : (varsP d y.2).length <= d.length := varsUp_len
  refine seenS_lp (by omega) (by simp; omega) (seen ++ [y.1]) 0 rfl (by omega) (fun n y89 y90 y91 y92 => Z54.l3 n y89 y90 (IntKind.wrap .i64 (y91 + 1)) y92 (Kx (n + 1)) (Kr (n + 1))) (fun n y93 => Kr (n + 1) y93) (fun ha => ?_) (fun ha => (k2 (by rw [ha]; simp)).shift)
  rw [wrap64 (x := x + 1) (by omega) (by omega)]
  refine straightS_lp hd hl hy ys (x + 1) _ e3 (by omega) (by simp; omega) (fun n => Kx (n + 1)) (fun n => Kr (n + 1)) (fun e => (k1 ?_).shift) (fun e => (k2 ?_).shift)
  ·rw [ha, e, hb]; simp [hn]
  ·rw [e]; simp
theorem straightS_wp {d : List tDecl} {l : List tBinding} (hl : l.length <= 1048576) (hy : ∀ y ∈ l, ∀ x : tTNode, x ∈ y.2 -> Wd x.2.2.2.2.2.1 /\ x.2.2.2.2.2.2.length <= 1099511627776) (R : Nat -> Bool -> Prop) (hR : Ev fun n => R n (straight d l)) : Ev (fun n => Z54.c n d l (R n)) := by
 unfold straight at hR
 refine Ev.succ ?_
 simp only [Z54.c, Z54.w]
 cases h : declsOk d with
 | true =>
  rw [h, Bool.true_and] at hR
  refine straightS_lp h hl hy l 0 [] rfl (by omega) (by simp) (fun n y101 => Z53.c n y101 (fun r102 => R (n + 1) r102)) (fun n y103 => R (n + 1) y103) (fun e => ?_) (fun e => by rw [e] at hR; exact hR.shift)
  rw [declsOkS_ev, h]; rw [e] at hR; exact hR.shift
 | false =>
  rw [h, Bool.false_and] at hR
  cases l with
  | nil =>
   refine Ev.succ ?_
   simp only [Z54.l3, Z54.l3.b]
   refine Ev.neg (by simp) ?_
   have : Ev (fun n => Z53.c n d (fun r102 => R (n + 1) r102)) := by rw [declsOkS_ev, h]; exact hR.shift
   exact this.shift
  | cons y r =>
   refine Ev.succ ?_
   simp only [Z54.l3, Z54.l3.b]
   refine Ev.pos (by simp) (Ev.grd (by simp) (fitsS_no h _ ?_))
   exact Ev.neg (by simp) hR.shift.shift
end Go.Vsi
end

section
set_option linter.unusedVariables false
set_option linter.unusedSimpArgs false
namespace Go.Vsi
end Go.Vsi
end

section
set_option linter.unusedVariables false
set_option linter.unusedSimpArgs false
set_option synthInstance.maxSize 4096
namespace Go.Vsi
theorem Z28_ev {a0 : List UInt8} {a1 : Int} {left : Int} (h0 : -1 <= left) (h1 : left <= 1099511627776) (h2 : a0.length <= 9223372036854775807) (R : Nat -> Int -> Prop) :
  Ev (fun n => Z28.c n a0 a1 left (R n)) ↔ Ev (fun n => R n (szr left (a0.length))) := by
 refine Ev.suc.trans ?_
 simp (disch := first | assumption | omega | exact szr_m1 (by assumption) | exact szr_le' (by assumption) (by assumption)) only [Z28.c, Z28.w, wrap64, Ev.iteI, decide_eq_true_eq, Ev.s1 R]
 unfold szr; (repeat' split) <;> first | rfl | (exfalso; omega) | exact ev_arg (by omega)
def sDeclS : List tDecl -> Nat
 | [] => 0
 | y :: r => y.1.length + sDeclS r
theorem sDeclS_mem {y : tDecl} : ∀ {l : List tDecl}, y ∈ l -> y.1.length <= sDeclS l
 | [], h => absurd h List.not_mem_nil
 | a :: l, h => by
  rw [sDeclS]
  rcases List.mem_cons.1 h with rfl | h
  ·omega
  ·have := sDeclS_mem h; omega
abbrev yDecl : Ty := .prod .str (.int .i64)
theorem szDeclS_gd {l : List tDecl} (h : Gd (.sl 0 yDecl) l) : ∀ y : tDecl, y ∈ l -> y.1.length <= 9223372036854775807 := fun y hy => (h.2 y hy).1
theorem Z29_lp {l : List tDecl} (hl : l.length <= 9223372036854775807) : ∀ (ys : List tDecl) (x left : Int), l.drop x.toNat = ys -> 0 <= x -> 0 <= left -> left <= 1099511627776 -> (∀ y ∈ ys, y.1.length <= 9223372036854775807) -> ∀ (Kx : Nat -> Int -> Prop),
  (Ev (fun n => Z29.l5 n l left x (Kx n) (Kx n)) ↔ Ev (fun n => Kx n (szr left (sDeclS ys))))
 | [], x, left, h, h0, h1, h2, hy, Kx => by
  have := drop_nil h h0
  refine Ev.suc.trans ?_
  simp (disch := omega) only [Z29.l5, Z29.l5.b, if_neg, decide_eq_true_eq, Ev.s1 Kx, sDeclS]
  refine ev_arg ?_; unfold szr; split <;> omega
 | y :: ys, x, left, h, h0, h1, h2, hy, Kx => by
  obtain ⟨e1, e2, e3⟩ := drop_cons h h0
  have hy0 := hy y List.mem_cons_self
  refine Ev.suc.trans ?_
  simp (disch := first | assumption | exact hy0.1 | exact hy0.2 | exact hy0.2.1 | exact hy0.2.2 | exact hy0.2.2.1 | exact hy0.2.2.2 | omega) only [Z29.l5, Z29.l5.b, if_pos, decide_eq_true_eq, Ev.s1 Kx, grd_dec2, e2, Z28_ev, Ev.iteI, wrap64]
  split
  ·rename_i hs
   rw [sDeclS, szr_back hs]
  ·rename_i hs
   rw [Z29_lp hl ys (x + 1) _ e3 (by omega) (by omega) (szr_le' (by omega) h2) (fun y hy' => hy y (List.mem_cons_of_mem _ hy')), sDeclS, szr_two h1 hs, Ev.s1 Kx]
theorem Z29_ev {l : List tDecl} {left : Int} (h0 : -1 <= left) (h1 : left <= 1099511627776) (hl : l.length <= 9223372036854775807) (hy : ∀ y ∈ l, y.1.length <= 9223372036854775807) (R : Nat -> Int -> Prop) :
  Ev (fun n => Z29.c n l left (R n)) ↔ Ev (fun n => R n (szr left (l.length + sDeclS l))) := by
 refine Ev.suc.trans ?_
 simp (disch := omega) only [Z29.c, Z29.w, wrap64, Ev.iteI, decide_eq_true_eq, Ev.s1 R]
 split
 ·refine ev_arg ?_; unfold szr; split <;> omega
 ·rw [Z29_lp hl l 0 _ rfl (by omega) (by omega) (by omega) hy, Ev.s1 R]
  refine ev_arg ?_; unfold szr; (repeat' split) <;> omega
theorem Z34_ev {l : List Int} {left : Int} (h0 : -1 <= left) (h1 : left <= 1099511627776) (hl : l.length <= 9223372036854775807) (R : Nat -> Int -> Prop) :
  Ev (fun n => Z34.c n l left (R n)) ↔ Ev (fun n => R n (szr left l.length)) := by
 refine Ev.suc.trans ?_
 simp (disch := omega) only [Z34.c, Z34.w, wrap64, Ev.iteI, decide_eq_true_eq, Ev.s1 R]
 unfold szr; split <;> split <;> first | rfl | omega | exact ev_arg (by omega)
theorem Z27_ev {a0 : Int} {a1 : List Int} {left : Int} (h0 : -1 <= left) (h1 : left <= 1099511627776) (h2 : a1.length <= 9223372036854775807) (R : Nat -> Int -> Prop) :
  Ev (fun n => Z27.c n a0 a1 left (R n)) ↔ Ev (fun n => R n (szr left (a1.length))) := by
 refine Ev.suc.trans ?_
 simp (disch := first | assumption | omega | exact szr_m1 (by assumption) | exact szr_le' (by assumption) (by assumption)) only [Z27.c, Z27.w, Z34_ev, wrap64, Ev.iteI, decide_eq_true_eq, Ev.s1 R]
 unfold szr; (repeat' split) <;> first | rfl | (exfalso; omega) | exact ev_arg (by omega)
theorem Z30_ev {l : List Int} {left : Int} (h0 : -1 <= left) (h1 : left <= 1099511627776) (hl : l.length <= 9223372036854775807) (R : Nat -> Int -> Prop) :
  Ev (fun n => Z30.c n l left (R n)) ↔ Ev (fun n => R n (szr left l.length)) := by
 refine Ev.suc.trans ?_
 simp (disch := omega) only [Z30.c, Z30.w, wrap64, Ev.iteI, decide_eq_true_eq, Ev.s1 R]
 unfold szr; split <;> split <;> first | rfl | omega | exact ev_arg (by omega)
theorem Z31_ev {a0 : Int} {a1 : Int} {a2 : Int} {a3 : Int} {a4 : Int} {a5 : List Int} {a6 : List Int} {left : Int} (h0 : -1 <= left) (h1 : left <= 1099511627776) (h2 : a5.length <= 9223372036854775807) (h3 : a6.length <= 9223372036854775807) (R : Nat -> Int -> Prop) :
  Ev (fun n => Z31.c n a0 a1 a2 a3 a4 a5 a6 left (R n)) ↔ Ev (fun n => R n (szr left (a5.length + a6.length))) := by
 refine Ev.suc.trans ?_
 simp (disch := first | assumption | omega | exact szr_m1 (by assumption) | exact szr_le' (by assumption) (by assumption)) only [Z31.c, Z31.w, Z27_ev, Z30_ev, wrap64, Ev.iteI, decide_eq_true_eq, Ev.s1 R]
 unfold szr; (repeat' split) <;> first | rfl | (exfalso; omega) | exact ev_arg (by omega)
def sTNodeS : List tTNode -> Nat
 | [] => 0
 | y :: r => (y.2.2.2.2.2.1.length + y.2.2.2.2.2.2.length) + sTNodeS r
theorem sTNodeS_mem {y : tTNode} : ∀ {l : List tTNode}, y ∈ l -> y.2.2.2.2.2.1.length + y.2.2.2.2.2.2.length <= sTNodeS l
 | [], h => absurd h List.not_mem_nil
 | a :: l, h => by
  rw [sTNodeS]
  rcases List.mem_cons.1 h with rfl | h
  ·omega
  ·have := sTNodeS_mem h; omega
abbrev yTNode : Ty := .prod (.int .i64) (.prod (.int .i64) (.prod (.int .i64) (.prod (.int .i64) (.prod (.int .i64) (.prod (.sl 0 (.int .u64)) (.sl 0 (.int .i64)))))))
theorem Z32_lp {l : List tTNode} (hl : l.length <= 9223372036854775807) : ∀ (ys : List tTNode) (x left : Int), l.drop x.toNat = ys -> 0 <= x -> 0 <= left -> left <= 1099511627776 -> (∀ y ∈ ys, y.2.2.2.2.2.1.length <= 9223372036854775807 /\ y.2.2.2.2.2.2.length <= 9223372036854775807) -> ∀ (Kx : Nat -> Int -> Prop),
  (Ev (fun n => Z32.l5 n l left x (Kx n) (Kx n)) ↔ Ev (fun n => Kx n (szr left (sTNodeS ys))))
 | [], x, left, h, h0, h1, h2, hy, Kx => by
  have := drop_nil h h0
  refine Ev.suc.trans ?_
  simp (disch := omega) only [Z32.l5, Z32.l5.b, if_neg, decide_eq_true_eq, Ev.s1 Kx, sTNodeS]
  refine ev_arg ?_; unfold szr; split <;> omega
 | y :: ys, x, left, h, h0, h1, h2, hy, Kx => by
  obtain ⟨e1, e2, e3⟩ := drop_cons h h0
  have hy0 := hy y List.mem_cons_self
  refine Ev.suc.trans ?_
  simp (disch := first | assumption | exact hy0.1 | exact hy0.2 | exact hy0.2.1 | exact hy0.2.2 | exact hy0.2.2.1 | exact hy0.2.2.2 | omega) only [Z32.l5, Z32.l5.b, if_pos, decide_eq_true_eq, Ev.s1 Kx, grd_dec2, e2, Z31_ev, Ev.iteI, wrap64]
  split
  ·rename_i hs
   rw [sTNodeS, szr_back hs]
  ·rename_i hs
   rw [Z32_lp hl ys (x + 1) _ e3 (by omega) (by omega) (szr_le' (by omega) h2) (fun y hy' => hy y (List.mem_cons_of_mem _ hy')), sTNodeS, szr_two h1 hs, Ev.s1 Kx]
theorem Z32_ev {l : List tTNode} {left : Int} (h0 : -1 <= left) (h1 : left <= 1099511627776) (hl : l.length <= 9223372036854775807) (hy : ∀ y ∈ l, y.2.2.2.2.2.1.length <= 9223372036854775807 /\ y.2.2.2.2.2.2.length <= 9223372036854775807) (R : Nat -> Int -> Prop) :
  Ev (fun n => Z32.c n l left (R n)) ↔ Ev (fun n => R n (szr left (l.length + sTNodeS l))) := by
 refine Ev.suc.trans ?_
 simp (disch := omega) only [Z32.c, Z32.w, wrap64, Ev.iteI, decide_eq_true_eq, Ev.s1 R]
 split
 ·refine ev_arg ?_; unfold szr; split <;> omega
 ·rw [Z32_lp hl l 0 _ rfl (by omega) (by omega) (by omega) hy, Ev.s1 R]
  refine ev_arg ?_; unfold szr; (repeat' split) <;> omega
theorem Z33_ev {a0 : List (Int × Int × Int × Int × Int × List (Int) × List (Int))} {left : Int} (h0 : -1 <= left) (h1 : left <= 1099511627776) (h2 : a0.length <= 9223372036854775807) (h3 : (∀ y : tTNode, y ∈ a0 -> y.2.2.2.2.2.1.length <= 9223372036854775807 /\ y.2.2.2.2.2.2.length <= 9223372036854775807)) (R : Nat -> Int -> Prop) :
  Ev (fun n => Z33.c n a0 left (R n)) ↔ Ev (fun n => R n (szr left ((a0.length + sTNodeS a0)))) := by
 refine Ev.suc.trans ?_
 simp (disch := first | assumption | omega | exact szr_m1 (by assumption) | exact szr_le' (by assumption) (by assumption)) only [Z33.c, Z33.w, Z32_ev, wrap64, Ev.iteI, decide_eq_true_eq, Ev.s1 R]
 unfold szr; (repeat' split) <;> first | rfl | (exfalso; omega) | exact ev_arg (by omega)
theorem Z38_ev {a0 : List UInt8} {a1 : Int} (h : a0.length <= 1048576) (R : Nat -> List UInt8 -> Int -> Prop) :
  Ev (fun n => Z38.c n a0 a1 (R n)) ↔ Ev (fun n => R n a0 a1) := by
 refine Ev.suc.trans ?_
 simp (disch := omega) only [Z38.c, Z38.w, Ev.s2 R]
theorem Z39_lp {l : List tDecl} (hl : l.length <= 1048576) : ∀ (ys : List tDecl) (x : Int) (o : List tDecl), l.drop x.toNat = ys -> 0 <= x -> o.length = l.length -> (∀ y ∈ ys, y.1.length <= 1048576) -> ∀ (Kx : Nat -> List tDecl -> Prop),
  (Ev (fun n => Z39.l3 n l x o (Kx n)) ↔ Ev (fun n => Kx n (o.take x.toNat ++ ys)))
 | [], x, o, h, h0, ho, hy, Kx => by
  have := drop_nil h h0
  refine Ev.suc.trans ?_
  simp (disch := omega) only [Z39.l3, Z39.l3.b, if_neg, decide_eq_true_eq, Ev.s1 Kx]
  rw [List.take_of_length_le (by omega), List.append_nil]
 | y :: ys, x, o, h, h0, ho, hy, Kx => by
  obtain ⟨e1, e2, e3⟩ := drop_cons h h0
  have hy0 := hy y List.mem_cons_self
  refine Ev.suc.trans ?_
  simp (disch := omega) only [Z39.l3, Z39.l3.b, if_pos, decide_eq_true_eq, Ev.s1 Kx, grd_dec2, e2, wrap64, Z38_ev]
  rw [Z39_lp hl ys (x + 1) _ e3 (by omega) (by simpa using ho) (fun y hy' => hy y (List.mem_cons_of_mem _ hy')), Ev.s1 Kx, take_set (by omega) (by omega), List.append_assoc]
  rfl
theorem Z39_ev {l : List tDecl} (h : (l.length + sDeclS l) <= 1048576) (R : Nat -> List tDecl -> Prop) :
  Ev (fun n => Z39.c n l (R n)) ↔ Ev (fun n => R n l) := by
 refine Ev.suc.trans ?_
 simp (disch := omega) only [Z39.c, Z39.w, grd_dec2, decide_true, Bool.and_true]
 rw [Z39_lp (by omega) l 0 _ rfl (by omega) (by simp) (fun y hy => by have := sDeclS_mem hy; omega), Ev.s1 R]
 simp
theorem Z44_lp {l : List Int} (hl : l.length <= 1048576) : ∀ (ys : List Int) (x : Int) (o : List Int), l.drop x.toNat = ys -> 0 <= x -> o.length = l.length -> ∀ (Kx : Nat -> List Int -> Prop),
  (Ev (fun n => Z44.l3 n l x o (Kx n)) ↔ Ev (fun n => Kx n (o.take x.toNat ++ ys)))
 | [], x, o, h, h0, ho, Kx => by
  have := drop_nil h h0
  refine Ev.suc.trans ?_
  simp (disch := omega) only [Z44.l3, Z44.l3.b, if_neg, decide_eq_true_eq, Ev.s1 Kx]
  rw [List.take_of_length_le (by omega), List.append_nil]
 | y :: ys, x, o, h, h0, ho, Kx => by
  obtain ⟨e1, e2, e3⟩ := drop_cons h h0
  refine Ev.suc.trans ?_
  simp (disch := omega) only [Z44.l3, Z44.l3.b, if_pos, decide_eq_true_eq, Ev.s1 Kx, grd_dec2, e2, wrap64]
  rw [Z44_lp hl ys (x + 1) _ e3 (by omega) (by simpa using ho), Ev.s1 Kx, take_set (by omega) (by omega), List.append_assoc]
  rfl
theorem Z44_ev {l : List Int} (h : l.length <= 1048576) (R : Nat -> List Int -> Prop) :
  Ev (fun n => Z44.c n l (R n)) ↔ Ev (fun n => R n l) := by
 refine Ev.suc.trans ?_
 simp (disch := omega) only [Z44.c, Z44.w, grd_dec2, decide_true, Bool.and_true]
 rw [Z44_lp (by omega) l 0 _ rfl (by omega) (by simp), Ev.s1 R]
 simp
theorem Z37_ev {a0 : Int} {a1 : List Int} (h : a1.length <= 1048576) (R : Nat -> Int -> List Int -> Prop) :
  Ev (fun n => Z37.c n a0 a1 (R n)) ↔ Ev (fun n => R n a0 a1) := by
 refine Ev.suc.trans ?_
 simp (disch := omega) only [Z37.c, Z37.w, Z44_ev, Ev.s2 R]
theorem Z40_lp {l : List Int} (hl : l.length <= 1048576) : ∀ (ys : List Int) (x : Int) (o : List Int), l.drop x.toNat = ys -> 0 <= x -> o.length = l.length -> ∀ (Kx : Nat -> List Int -> Prop),
  (Ev (fun n => Z40.l3 n l x o (Kx n)) ↔ Ev (fun n => Kx n (o.take x.toNat ++ ys)))
 | [], x, o, h, h0, ho, Kx => by
  have := drop_nil h h0
  refine Ev.suc.trans ?_
  simp (disch := omega) only [Z40.l3, Z40.l3.b, if_neg, decide_eq_true_eq, Ev.s1 Kx]
  rw [List.take_of_length_le (by omega), List.append_nil]
 | y :: ys, x, o, h, h0, ho, Kx => by
  obtain ⟨e1, e2, e3⟩ := drop_cons h h0
  refine Ev.suc.trans ?_
  simp (disch := omega) only [Z40.l3, Z40.l3.b, if_pos, decide_eq_true_eq, Ev.s1 Kx, grd_dec2, e2, wrap64]
  rw [Z40_lp hl ys (x + 1) _ e3 (by omega) (by simpa using ho), Ev.s1 Kx, take_set (by omega) (by omega), List.append_assoc]
  rfl
theorem Z40_ev {l : List Int} (h : l.length <= 1048576) (R : Nat -> List Int -> Prop) :
  Ev (fun n => Z40.c n l (R n)) ↔ Ev (fun n => R n l) := by
 refine Ev.suc.trans ?_
 simp (disch := omega) only [Z40.c, Z40.w, grd_dec2, decide_true, Bool.and_true]
 rw [Z40_lp (by omega) l 0 _ rfl (by omega) (by simp), Ev.s1 R]
 simp
theorem Z41_ev {a0 : Int} {a1 : Int} {a2 : Int} {a3 : Int} {a4 : Int} {a5 : List Int} {a6 : List Int} (h : a5.length + a6.length <= 1048576) (R : Nat -> Int -> Int -> Int -> Int -> Int -> List Int -> List Int -> Prop) :
  Ev (fun n => Z41.c n a0 a1 a2 a3 a4 a5 a6 (R n)) ↔ Ev (fun n => R n a0 a1 a2 a3 a4 a5 a6) := by
 refine Ev.suc.trans ?_
 simp (disch := omega) only [Z41.c, Z41.w, Z37_ev, Z40_ev, Ev.s7 R]
theorem Z42_lp {l : List tTNode} (hl : l.length <= 1048576) : ∀ (ys : List tTNode) (x : Int) (o : List tTNode), l.drop x.toNat = ys -> 0 <= x -> o.length = l.length -> (∀ y ∈ ys, y.2.2.2.2.2.1.length + y.2.2.2.2.2.2.length <= 1048576) -> ∀ (Kx : Nat -> List tTNode -> Prop),
  (Ev (fun n => Z42.l3 n l x o (Kx n)) ↔ Ev (fun n => Kx n (o.take x.toNat ++ ys)))
 | [], x, o, h, h0, ho, hy, Kx => by
  have := drop_nil h h0
  refine Ev.suc.trans ?_
  simp (disch := omega) only [Z42.l3, Z42.l3.b, if_neg, decide_eq_true_eq, Ev.s1 Kx]
  rw [List.take_of_length_le (by omega), List.append_nil]
 | y :: ys, x, o, h, h0, ho, hy, Kx => by
  obtain ⟨e1, e2, e3⟩ := drop_cons h h0
  have hy0 := hy y List.mem_cons_self
  refine Ev.suc.trans ?_
  simp (disch := omega) only [Z42.l3, Z42.l3.b, if_pos, decide_eq_true_eq, Ev.s1 Kx, grd_dec2, e2, wrap64, Z41_ev]
  rw [Z42_lp hl ys (x + 1) _ e3 (by omega) (by simpa using ho) (fun y hy' => hy y (List.mem_cons_of_mem _ hy')), Ev.s1 Kx, take_set (by omega) (by omega), List.append_assoc]
  rfl
theorem Z42_ev {l : List tTNode} (h : (l.length + sTNodeS l) <= 1048576) (R : Nat -> List tTNode -> Prop) :
  Ev (fun n => Z42.c n l (R n)) ↔ Ev (fun n => R n l) := by
 refine Ev.suc.trans ?_
 simp (disch := omega) only [Z42.c, Z42.w, grd_dec2, decide_true, Bool.and_true]
 rw [Z42_lp (by omega) l 0 _ rfl (by omega) (by simp) (fun y hy => by have := sTNodeS_mem hy; omega), Ev.s1 R]
 simp
theorem Z43_ev {a0 : List (Int × Int × Int × Int × Int × List (Int) × List (Int))} (h : (a0.length + sTNodeS a0) <= 1048576) (R : Nat -> List (Int × Int × Int × Int × Int × List (Int) × List (Int)) -> Prop) :
  Ev (fun n => Z43.c n a0 (R n)) ↔ Ev (fun n => R n a0) := by
 refine Ev.suc.trans ?_
 simp (disch := omega) only [Z43.c, Z43.w, Z42_ev, Ev.s1 R]
theorem Z20_lp {l l' : List Int} (hl : l.length <= 1099511627776) (hll : l.length = l'.length) : ∀ (ys ys' : List Int) (x : Int), l.drop x.toNat = ys -> l'.drop x.toNat = ys' -> 0 <= x -> ∀ (Kx : Nat -> Prop) (Kr : Nat -> Bool -> Prop),
  (Ev (fun n => Z20.l4 n l l' x (Kx n) (Kr n)) ↔ if ys = ys' then Ev Kx else Ev (fun n => Kr n false))
 | [], [], x, h, h', h0, Kx, Kr => by
  have := drop_nil h h0
  refine Ev.suc.trans ?_
  simp (disch := omega) only [Z20.l4, Z20.l4.b, if_neg, decide_eq_true_eq, Ev.s0 Kx, if_true]
 | [], y' :: ys', x, h, h', h0, Kx, Kr => by
  have := drop_nil h h0; have := (drop_cons h' h0).1; omega
 | y :: ys, [], x, h, h', h0, Kx, Kr => by
  have := drop_nil h' h0; have := (drop_cons h h0).1; omega
 | y :: ys, y' :: ys', x, h, h', h0, Kx, Kr => by
  obtain ⟨e1, e2, e3⟩ := drop_cons h h0
  obtain ⟨_, f2, f3⟩ := drop_cons h' h0
  refine Ev.suc.trans ?_
  simp (disch := first | assumption | exact hy0.1 | exact hy0.2 | exact hy0.2.1 | exact hy0.2.2 | exact hy0.2.2.1 | exact hy0.2.2.2 | omega) only [Z20.l4, Z20.l4.b, if_pos, decide_eq_true_eq, Ev.s0 Kx, Ev.s1 Kr, grd_dec2, e2, f2, wrap64, Ev.iteI, Bool.not_eq_true', decide_eq_false_iff_not]
  rw [Z20_lp hl hll ys ys' (x + 1) e3 f3 (by omega), Ev.s0 Kx, Ev.s1 Kr]
  simp only [List.cons.injEq, Prod.ext_iff]
  (repeat' split) <;> first | rfl | (exfalso; simp_all; done)
theorem Z20_ev {l l' : List Int} (hl : l.length <= 1099511627776) (R : Nat -> Bool -> Prop) :
  Ev (fun n => Z20.c n l l' (R n)) ↔ Ev (fun n => R n (decide (l = l'))) := by
 refine Ev.suc.trans ?_
 simp (disch := omega) only [Z20.c, Z20.w, Ev.iteI, Bool.not_eq_true', decide_eq_false_iff_not, Ev.s1 R]
 split
 ·rw [decide_eq_false]; intro e; subst e; omega
 ·rw [Z20_lp hl (by omega) l l' 0 rfl rfl (by omega), Ev.s1 R, Ev.s1 R]
  split
  ·rw [decide_eq_true ‹_›]
  ·rw [decide_eq_false ‹_›]
theorem Z18_ev {a0 b0 : List UInt8} {a1 b1 : Int} (R : Nat -> Bool -> Prop) :
  Ev (fun n => Z18.c n a0 a1 b0 b1 (R n)) ↔ Ev (fun n => R n (decide (a0 = b0 /\ a1 = b1))) := by
 refine Ev.suc.trans ?_
 simp (disch := first | assumption | omega) only [Z18.c, Z18.w, Ev.iteI, Bool.not_eq_true', decide_eq_false_iff_not, beq_eq_false_iff_ne, ne_eq, Ev.s1 R]
 (repeat' split) <;> first | (rw [decide_eq_false]; simp_all; done) | (rw [decide_eq_true]; simp_all; done)
theorem Z19_lp {l l' : List tDecl} (hl : l.length <= 1099511627776) (hll : l.length = l'.length) : ∀ (ys ys' : List tDecl) (x : Int), l.drop x.toNat = ys -> l'.drop x.toNat = ys' -> 0 <= x -> ∀ (Kx : Nat -> Prop) (Kr : Nat -> Bool -> Prop),
  (Ev (fun n => Z19.l4 n l l' x (Kx n) (Kr n)) ↔ if ys = ys' then Ev Kx else Ev (fun n => Kr n false))
 | [], [], x, h, h', h0, Kx, Kr => by
  have := drop_nil h h0
  refine Ev.suc.trans ?_
  simp (disch := omega) only [Z19.l4, Z19.l4.b, if_neg, decide_eq_true_eq, Ev.s0 Kx, if_true]
 | [], y' :: ys', x, h, h', h0, Kx, Kr => by
  have := drop_nil h h0; have := (drop_cons h' h0).1; omega
 | y :: ys, [], x, h, h', h0, Kx, Kr => by
  have := drop_nil h' h0; have := (drop_cons h h0).1; omega
 | y :: ys, y' :: ys', x, h, h', h0, Kx, Kr => by
  obtain ⟨e1, e2, e3⟩ := drop_cons h h0
  obtain ⟨_, f2, f3⟩ := drop_cons h' h0
  refine Ev.suc.trans ?_
  simp (disch := first | assumption | exact hy0.1 | exact hy0.2 | exact hy0.2.1 | exact hy0.2.2 | exact hy0.2.2.1 | exact hy0.2.2.2 | omega) only [Z19.l4, Z19.l4.b, if_pos, decide_eq_true_eq, Ev.s0 Kx, Ev.s1 Kr, grd_dec2, e2, f2, wrap64, Z18_ev, Ev.iteI, Bool.not_eq_true', decide_eq_false_iff_not]
  rw [Z19_lp hl hll ys ys' (x + 1) e3 f3 (by omega), Ev.s0 Kx, Ev.s1 Kr]
  simp only [List.cons.injEq, Prod.ext_iff]
  (repeat' split) <;> first | rfl | (exfalso; simp_all; done)
theorem Z19_ev {l l' : List tDecl} (hl : l.length <= 1099511627776) (R : Nat -> Bool -> Prop) :
  Ev (fun n => Z19.c n l l' (R n)) ↔ Ev (fun n => R n (decide (l = l'))) := by
 refine Ev.suc.trans ?_
 simp (disch := omega) only [Z19.c, Z19.w, Ev.iteI, Bool.not_eq_true', decide_eq_false_iff_not, Ev.s1 R]
 split
 ·rw [decide_eq_false]; intro e; subst e; omega
 ·rw [Z19_lp hl (by omega) l l' 0 rfl rfl (by omega), Ev.s1 R, Ev.s1 R]
  split
  ·rw [decide_eq_true ‹_›]
  ·rw [decide_eq_false ‹_›]
theorem Z24_lp {l l' : List Int} (hl : l.length <= 1099511627776) (hll : l.length = l'.length) : ∀ (ys ys' : List Int) (x : Int), l.drop x.toNat = ys -> l'.drop x.toNat = ys' -> 0 <= x -> ∀ (Kx : Nat -> Prop) (Kr : Nat -> Bool -> Prop),
  (Ev (fun n => Z24.l4 n l l' x (Kx n) (Kr n)) ↔ if ys = ys' then Ev Kx else Ev (fun n => Kr n false))
 | [], [], x, h, h', h0, Kx, Kr => by
  have := drop_nil h h0
  refine Ev.suc.trans ?_
  simp (disch := omega) only [Z24.l4, Z24.l4.b, if_neg, decide_eq_true_eq, Ev.s0 Kx, if_true]
 | [], y' :: ys', x, h, h', h0, Kx, Kr => by
  have := drop_nil h h0; have := (drop_cons h' h0).1; omega
 | y :: ys, [], x, h, h', h0, Kx, Kr => by
  have := drop_nil h' h0; have := (drop_cons h h0).1; omega
 | y :: ys, y' :: ys', x, h, h', h0, Kx, Kr => by
  obtain ⟨e1, e2, e3⟩ := drop_cons h h0
  obtain ⟨_, f2, f3⟩ := drop_cons h' h0
  refine Ev.suc.trans ?_
  simp (disch := first | assumption | exact hy0.1 | exact hy0.2 | exact hy0.2.1 | exact hy0.2.2 | exact hy0.2.2.1 | exact hy0.2.2.2 | omega) only [Z24.l4, Z24.l4.b, if_pos, decide_eq_true_eq, Ev.s0 Kx, Ev.s1 Kr, grd_dec2, e2, f2, wrap64, Ev.iteI, Bool.not_eq_true', decide_eq_false_iff_not]
  rw [Z24_lp hl hll ys ys' (x + 1) e3 f3 (by omega), Ev.s0 Kx, Ev.s1 Kr]
  simp only [List.cons.injEq, Prod.ext_iff]
  (repeat' split) <;> first | rfl | (exfalso; simp_all; done)
theorem Z24_ev {l l' : List Int} (hl : l.length <= 1099511627776) (R : Nat -> Bool -> Prop) :
  Ev (fun n => Z24.c n l l' (R n)) ↔ Ev (fun n => R n (decide (l = l'))) := by
 refine Ev.suc.trans ?_
 simp (disch := omega) only [Z24.c, Z24.w, Ev.iteI, Bool.not_eq_true', decide_eq_false_iff_not, Ev.s1 R]
 split
 ·rw [decide_eq_false]; intro e; subst e; omega
 ·rw [Z24_lp hl (by omega) l l' 0 rfl rfl (by omega), Ev.s1 R, Ev.s1 R]
  split
  ·rw [decide_eq_true ‹_›]
  ·rw [decide_eq_false ‹_›]
theorem Z17_ev {a0 b0 : Int} {a1 b1 : List Int} (h0 : a1.length <= 1099511627776) (R : Nat -> Bool -> Prop) :
  Ev (fun n => Z17.c n a0 a1 b0 b1 (R n)) ↔ Ev (fun n => R n (decide (a0 = b0 /\ a1 = b1))) := by
 refine Ev.suc.trans ?_
 simp (disch := first | assumption | omega) only [Z17.c, Z17.w, Z24_ev, Ev.iteI, Bool.not_eq_true', decide_eq_false_iff_not, beq_eq_false_iff_ne, ne_eq, Ev.s1 R]
 (repeat' split) <;> first | (rw [decide_eq_false]; simp_all; done) | (rw [decide_eq_true]; simp_all; done)
theorem Z21_ev {a0 b0 : Int} {a1 b1 : Int} {a2 b2 : Int} {a3 b3 : Int} {a4 b4 : Int} {a5 b5 : List Int} {a6 b6 : List Int} (h0 : a5.length <= 1099511627776) (h1 : a6.length <= 1099511627776) (R : Nat -> Bool -> Prop) :
  Ev (fun n => Z21.c n a0 a1 a2 a3 a4 a5 a6 b0 b1 b2 b3 b4 b5 b6 (R n)) ↔ Ev (fun n => R n (decide (a0 = b0 /\ a1 = b1 /\ a2 = b2 /\ a3 = b3 /\ a4 = b4 /\ a5 = b5 /\ a6 = b6))) := by
 refine Ev.suc.trans ?_
 simp (disch := first | assumption | omega) only [Z21.c, Z21.w, Z17_ev, Z20_ev, Ev.iteI, Bool.not_eq_true', decide_eq_false_iff_not, beq_eq_false_iff_ne, ne_eq, Ev.s1 R]
 (repeat' split) <;> first | (rw [decide_eq_false]; simp_all; done) | (rw [decide_eq_true]; simp_all; done)
theorem Z22_lp {l l' : List tTNode} (hl : l.length <= 1099511627776) (hll : l.length = l'.length) : ∀ (ys ys' : List tTNode) (x : Int), l.drop x.toNat = ys -> l'.drop x.toNat = ys' -> 0 <= x -> (∀ y ∈ ys, y.2.2.2.2.2.1.length <= 1099511627776 /\ y.2.2.2.2.2.2.length <= 1099511627776) -> ∀ (Kx : Nat -> Prop) (Kr : Nat -> Bool -> Prop),
  (Ev (fun n => Z22.l4 n l l' x (Kx n) (Kr n)) ↔ if ys = ys' then Ev Kx else Ev (fun n => Kr n false))
 | [], [], x, h, h', h0, hy, Kx, Kr => by
  have := drop_nil h h0
  refine Ev.suc.trans ?_
  simp (disch := omega) only [Z22.l4, Z22.l4.b, if_neg, decide_eq_true_eq, Ev.s0 Kx, if_true]
 | [], y' :: ys', x, h, h', h0, hy, Kx, Kr => by
  have := drop_nil h h0; have := (drop_cons h' h0).1; omega
 | y :: ys, [], x, h, h', h0, hy, Kx, Kr => by
  have := drop_nil h' h0; have := (drop_cons h h0).1; omega
 | y :: ys, y' :: ys', x, h, h', h0, hy, Kx, Kr => by
  obtain ⟨e1, e2, e3⟩ := drop_cons h h0
  obtain ⟨_, f2, f3⟩ := drop_cons h' h0
  have hy0 := hy y List.mem_cons_self
  refine Ev.suc.trans ?_
  simp (disch := first | assumption | exact hy0.1 | exact hy0.2 | exact hy0.2.1 | exact hy0.2.2 | exact hy0.2.2.1 | exact hy0.2.2.2 | omega) only [Z22.l4, Z22.l4.b, if_pos, decide_eq_true_eq, Ev.s0 Kx, Ev.s1 Kr, grd_dec2, e2, f2, wrap64, Z21_ev, Ev.iteI, Bool.not_eq_true', decide_eq_false_iff_not]
  rw [Z22_lp hl hll ys ys' (x + 1) e3 f3 (by omega) (fun y hy' => hy y (List.mem_cons_of_mem _ hy')), Ev.s0 Kx, Ev.s1 Kr]
  simp only [List.cons.injEq, Prod.ext_iff]
  (repeat' split) <;> first | rfl | (exfalso; simp_all; done)
theorem Z22_ev {l l' : List tTNode} (hl : l.length <= 1099511627776) (hy : ∀ y ∈ l, y.2.2.2.2.2.1.length <= 1099511627776 /\ y.2.2.2.2.2.2.length <= 1099511627776) (R : Nat -> Bool -> Prop) :
  Ev (fun n => Z22.c n l l' (R n)) ↔ Ev (fun n => R n (decide (l = l'))) := by
 refine Ev.suc.trans ?_
 simp (disch := omega) only [Z22.c, Z22.w, Ev.iteI, Bool.not_eq_true', decide_eq_false_iff_not, Ev.s1 R]
 split
 ·rw [decide_eq_false]; intro e; subst e; omega
 ·rw [Z22_lp hl (by omega) l l' 0 rfl rfl (by omega) hy, Ev.s1 R, Ev.s1 R]
  split
  ·rw [decide_eq_true ‹_›]
  ·rw [decide_eq_false ‹_›]
theorem Z23_ev {a0 b0 : List (Int × Int × Int × Int × Int × List (Int) × List (Int))} (h0 : a0.length <= 1099511627776) (h1 : (∀ y : tTNode, y ∈ a0 -> y.2.2.2.2.2.1.length <= 1099511627776 /\ y.2.2.2.2.2.2.length <= 1099511627776)) (R : Nat -> Bool -> Prop) :
  Ev (fun n => Z23.c n a0 b0 (R n)) ↔ Ev (fun n => R n (decide (a0 = b0))) := by
 refine Ev.suc.trans ?_
 simp (disch := first | assumption | omega) only [Z23.c, Z23.w, Z22_ev, Ev.iteI, Bool.not_eq_true', decide_eq_false_iff_not, beq_eq_false_iff_ne, ne_eq, Ev.s1 R]
 (repeat' split) <;> first | (rw [decide_eq_false]; simp_all; done) | (rw [decide_eq_true]; simp_all; done)
theorem Z25_ev {a0 : Int} {a1 : List (Int × Int × Int × Int × Int × List (Int) × List (Int))} {left : Int} (h0 : -1 <= left) (h1 : left <= 1099511627776) (h2 : a1.length <= 9223372036854775807) (h3 : (∀ y : tTNode, y ∈ a1 -> y.2.2.2.2.2.1.length <= 9223372036854775807 /\ y.2.2.2.2.2.2.length <= 9223372036854775807)) (R : Nat -> Int -> Prop) :
  Ev (fun n => Z25.c n a0 a1 left (R n)) ↔ Ev (fun n => R n (szr left (((a1.length + sTNodeS a1))))) := by
 refine Ev.suc.trans ?_
 simp (disch := first | assumption | omega | exact szr_m1 (by assumption) | exact szr_le' (by assumption) (by assumption)) only [Z25.c, Z25.w, Z33_ev, wrap64, Ev.iteI, decide_eq_true_eq, Ev.s1 R]
 unfold szr; (repeat' split) <;> first | rfl | (exfalso; omega) | exact ev_arg (by omega)
def sBindingS : List tBinding -> Nat
 | [] => 0
 | y :: r => (((y.2.length + sTNodeS y.2))) + sBindingS r
theorem sBindingS_mem {y : tBinding} : ∀ {l : List tBinding}, y ∈ l -> ((y.2.length + sTNodeS y.2)) <= sBindingS l
 | [], h => absurd h List.not_mem_nil
 | a :: l, h => by
  rw [sBindingS]
  rcases List.mem_cons.1 h with rfl | h
  ·omega
  ·have := sBindingS_mem h; omega
abbrev yBinding : Ty := .prod (.int .i64) (.sl 0 (.prod (.int .i64) (.prod (.int .i64) (.prod (.int .i64) (.prod (.int .i64) (.prod (.int .i64) (.prod (.sl 0 (.int .u64)) (.sl 0 (.int .i64)))))))))
theorem szBindingS_gd {l : List tBinding} (h : Gd (.sl 0 yBinding) l) : ∀ y : tBinding, y ∈ l -> y.2.length <= 9223372036854775807 /\ (∀ z : tTNode, z ∈ y.2 -> z.2.2.2.2.2.1.length <= 9223372036854775807 /\ z.2.2.2.2.2.2.length <= 9223372036854775807) := fun y hy => ⟨(h.2 y hy).2.1, (fun z hz => ⟨((h.2 y hy).2.2 z hz).2.2.2.2.2.1.1, ((h.2 y hy).2.2 z hz).2.2.2.2.2.2.1⟩)⟩
theorem Z26_lp {l : List tBinding} (hl : l.length <= 9223372036854775807) : ∀ (ys : List tBinding) (x left : Int), l.drop x.toNat = ys -> 0 <= x -> 0 <= left -> left <= 1099511627776 -> (∀ y ∈ ys, y.2.length <= 9223372036854775807 /\ (∀ z : tTNode, z ∈ y.2 -> z.2.2.2.2.2.1.length <= 9223372036854775807 /\ z.2.2.2.2.2.2.length <= 9223372036854775807)) -> ∀ (Kx : Nat -> Int -> Prop),
  (Ev (fun n => Z26.l5 n l left x (Kx n) (Kx n)) ↔ Ev (fun n => Kx n (szr left (sBindingS ys))))
 | [], x, left, h, h0, h1, h2, hy, Kx => by
  have := drop_nil h h0
  refine Ev.suc.trans ?_
  simp (disch := omega) only [Z26.l5, Z26.l5.b, if_neg, decide_eq_true_eq, Ev.s1 Kx, sBindingS]
  refine ev_arg ?_; unfold szr; split <;> omega
 | y :: ys, x, left, h, h0, h1, h2, hy, Kx => by
  obtain ⟨e1, e2, e3⟩ := drop_cons h h0
  have hy0 := hy y List.mem_cons_self
  refine Ev.suc.trans ?_
  simp (disch := first | assumption | exact hy0.1 | exact hy0.2 | exact hy0.2.1 | exact hy0.2.2 | exact hy0.2.2.1 | exact hy0.2.2.2 | omega) only [Z26.l5, Z26.l5.b, if_pos, decide_eq_true_eq, Ev.s1 Kx, grd_dec2, e2, Z25_ev, Ev.iteI, wrap64]
  split
  ·rename_i hs
   rw [sBindingS, szr_back hs]
  ·rename_i hs
   rw [Z26_lp hl ys (x + 1) _ e3 (by omega) (by omega) (szr_le' (by omega) h2) (fun y hy' => hy y (List.mem_cons_of_mem _ hy')), sBindingS, szr_two h1 hs, Ev.s1 Kx]
theorem Z26_ev {l : List tBinding} {left : Int} (h0 : -1 <= left) (h1 : left <= 1099511627776) (hl : l.length <= 9223372036854775807) (hy : ∀ y ∈ l, y.2.length <= 9223372036854775807 /\ (∀ z : tTNode, z ∈ y.2 -> z.2.2.2.2.2.1.length <= 9223372036854775807 /\ z.2.2.2.2.2.2.length <= 9223372036854775807)) (R : Nat -> Int -> Prop) :
  Ev (fun n => Z26.c n l left (R n)) ↔ Ev (fun n => R n (szr left (l.length + sBindingS l))) := by
 refine Ev.suc.trans ?_
 simp (disch := omega) only [Z26.c, Z26.w, wrap64, Ev.iteI, decide_eq_true_eq, Ev.s1 R]
 split
 ·refine ev_arg ?_; unfold szr; split <;> omega
 ·rw [Z26_lp hl l 0 _ rfl (by omega) (by omega) (by omega) hy, Ev.s1 R]
  refine ev_arg ?_; unfold szr; (repeat' split) <;> omega
theorem Z35_ev {a0 : Int} {a1 : List (Int × Int × Int × Int × Int × List (Int) × List (Int))} (h : ((a1.length + sTNodeS a1)) <= 1048576) (R : Nat -> Int -> List (Int × Int × Int × Int × Int × List (Int) × List (Int)) -> Prop) :
  Ev (fun n => Z35.c n a0 a1 (R n)) ↔ Ev (fun n => R n a0 a1) := by
 refine Ev.suc.trans ?_
 simp (disch := omega) only [Z35.c, Z35.w, Z43_ev, Ev.s2 R]
theorem Z36_lp {l : List tBinding} (hl : l.length <= 1048576) : ∀ (ys : List tBinding) (x : Int) (o : List tBinding), l.drop x.toNat = ys -> 0 <= x -> o.length = l.length -> (∀ y ∈ ys, ((y.2.length + sTNodeS y.2)) <= 1048576) -> ∀ (Kx : Nat -> List tBinding -> Prop),
  (Ev (fun n => Z36.l3 n l x o (Kx n)) ↔ Ev (fun n => Kx n (o.take x.toNat ++ ys)))
 | [], x, o, h, h0, ho, hy, Kx => by
  have := drop_nil h h0
  refine Ev.suc.trans ?_
  simp (disch := omega) only [Z36.l3, Z36.l3.b, if_neg, decide_eq_true_eq, Ev.s1 Kx]
  rw [List.take_of_length_le (by omega), List.append_nil]
 | y :: ys, x, o, h, h0, ho, hy, Kx => by
  obtain ⟨e1, e2, e3⟩ := drop_cons h h0
  have hy0 := hy y List.mem_cons_self
  refine Ev.suc.trans ?_
  simp (disch := omega) only [Z36.l3, Z36.l3.b, if_pos, decide_eq_true_eq, Ev.s1 Kx, grd_dec2, e2, wrap64, Z35_ev]
  rw [Z36_lp hl ys (x + 1) _ e3 (by omega) (by simpa using ho) (fun y hy' => hy y (List.mem_cons_of_mem _ hy')), Ev.s1 Kx, take_set (by omega) (by omega), List.append_assoc]
  rfl
theorem Z36_ev {l : List tBinding} (h : (l.length + sBindingS l) <= 1048576) (R : Nat -> List tBinding -> Prop) :
  Ev (fun n => Z36.c n l (R n)) ↔ Ev (fun n => R n l) := by
 refine Ev.suc.trans ?_
 simp (disch := omega) only [Z36.c, Z36.w, grd_dec2, decide_true, Bool.and_true]
 rw [Z36_lp (by omega) l 0 _ rfl (by omega) (by simp) (fun y hy => by have := sBindingS_mem hy; omega), Ev.s1 R]
 simp
theorem Z15_ev {a0 b0 : Int} {a1 b1 : List (Int × Int × Int × Int × Int × List (Int) × List (Int))} (h0 : a1.length <= 1099511627776) (h1 : (∀ y : tTNode, y ∈ a1 -> y.2.2.2.2.2.1.length <= 1099511627776 /\ y.2.2.2.2.2.2.length <= 1099511627776)) (R : Nat -> Bool -> Prop) :
  Ev (fun n => Z15.c n a0 a1 b0 b1 (R n)) ↔ Ev (fun n => R n (decide (a0 = b0 /\ a1 = b1))) := by
 refine Ev.suc.trans ?_
 simp (disch := first | assumption | omega) only [Z15.c, Z15.w, Z23_ev, Ev.iteI, Bool.not_eq_true', decide_eq_false_iff_not, beq_eq_false_iff_ne, ne_eq, Ev.s1 R]
 (repeat' split) <;> first | (rw [decide_eq_false]; simp_all; done) | (rw [decide_eq_true]; simp_all; done)
theorem Z16_lp {l l' : List tBinding} (hl : l.length <= 1099511627776) (hll : l.length = l'.length) : ∀ (ys ys' : List tBinding) (x : Int), l.drop x.toNat = ys -> l'.drop x.toNat = ys' -> 0 <= x -> (∀ y ∈ ys, y.2.length <= 1099511627776 /\ (∀ z : tTNode, z ∈ y.2 -> z.2.2.2.2.2.1.length <= 1099511627776 /\ z.2.2.2.2.2.2.length <= 1099511627776)) -> ∀ (Kx : Nat -> Prop) (Kr : Nat -> Bool -> Prop),
  (Ev (fun n => Z16.l4 n l l' x (Kx n) (Kr n)) ↔ if ys = ys' then Ev Kx else Ev (fun n => Kr n false))
 | [], [], x, h, h', h0, hy, Kx, Kr => by
  have := drop_nil h h0
  refine Ev.suc.trans ?_
  simp (disch := omega) only [Z16.l4, Z16.l4.b, if_neg, decide_eq_true_eq, Ev.s0 Kx, if_true]
 | [], y' :: ys', x, h, h', h0, hy, Kx, Kr => by
  have := drop_nil h h0; have := (drop_cons h' h0).1; omega
 | y :: ys, [], x, h, h', h0, hy, Kx, Kr => by
  have := drop_nil h' h0; have := (drop_cons h h0).1; omega
 | y :: ys, y' :: ys', x, h, h', h0, hy, Kx, Kr => by
  obtain ⟨e1, e2, e3⟩ := drop_cons h h0
  obtain ⟨_, f2, f3⟩ := drop_cons h' h0
  have hy0 := hy y List.mem_cons_self
  refine Ev.suc.trans ?_
  simp (disch := first | assumption | exact hy0.1 | exact hy0.2 | exact hy0.2.1 | exact hy0.2.2 | exact hy0.2.2.1 | exact hy0.2.2.2 | omega) only [Z16.l4, Z16.l4.b, if_pos, decide_eq_true_eq, Ev.s0 Kx, Ev.s1 Kr, grd_dec2, e2, f2, wrap64, Z15_ev, Ev.iteI, Bool.not_eq_true', decide_eq_false_iff_not]
  rw [Z16_lp hl hll ys ys' (x + 1) e3 f3 (by omega) (fun y hy' => hy y (List.mem_cons_of_mem _ hy')), Ev.s0 Kx, Ev.s1 Kr]
  simp only [List.cons.injEq, Prod.ext_iff]
  (repeat' split) <;> first | rfl | (exfalso; simp_all; done)
theorem Z16_ev {l l' : List tBinding} (hl : l.length <= 1099511627776) (hy : ∀ y ∈ l, y.2.length <= 1099511627776 /\ (∀ z : tTNode, z ∈ y.2 -> z.2.2.2.2.2.1.length <= 1099511627776 /\ z.2.2.2.2.2.2.length <= 1099511627776)) (R : Nat -> Bool -> Prop) :
  Ev (fun n => Z16.c n l l' (R n)) ↔ Ev (fun n => R n (decide (l = l'))) := by
 refine Ev.suc.trans ?_
 simp (disch := omega) only [Z16.c, Z16.w, Ev.iteI, Bool.not_eq_true', decide_eq_false_iff_not, Ev.s1 R]
 split
 ·rw [decide_eq_false]; intro e; subst e; omega
 ·rw [Z16_lp hl (by omega) l l' 0 rfl rfl (by omega) hy, Ev.s1 R, Ev.s1 R]
  split
  ·rw [decide_eq_true ‹_›]
  ·rw [decide_eq_false ‹_›]
theorem eqBindingS_of {l : List tBinding} (h : (l.length + sBindingS l) <= 1099511627776) : ∀ y : tBinding, y ∈ l -> y.2.length <= 1099511627776 /\ (∀ z : tTNode, z ∈ y.2 -> z.2.2.2.2.2.1.length <= 1099511627776 /\ z.2.2.2.2.2.2.length <= 1099511627776) := by
 intro y hy
 have := sBindingS_mem hy
 exact ⟨(by omega), (fun z hz => by have := sTNodeS_mem hz; exact ⟨(by omega), (by omega)⟩)⟩
end Go.Vsi
end

section
set_option linter.unusedVariables false
set_option linter.unusedSimpArgs false
set_option synthInstance.maxSize 4096
namespace Go.Vsi
theorem wd_of {l : List Int} (h : Gd (.sl 0 (.int .u64)) l) : Wd l := fun x hx => ⟨(h.2 x hx).1, (h.2 x hx).2⟩
theorem term_wd {t : List tTNode} (h : Gd (.sl 0 yTNode) t) (hz : t.length + sTNodeS t <= 1099511627776) : ∀ x : tTNode, x ∈ t -> Wd x.2.2.2.2.2.1 /\ x.2.2.2.2.2.2.length <= 1099511627776 :=
 fun x hx => ⟨wd_of (h.2 x hx).2.2.2.2.2.1, by have := sTNodeS_mem hx; omega⟩
end Go.Vsi
end

section
set_option linter.unusedVariables false
set_option linter.unusedSimpArgs false
set_option synthInstance.maxSize 4096
namespace Go.Vsi
theorem straight_law {d : List tDecl} {l : List tBinding} (hd : Gd (.sl 0 yDecl) d) (hg : Gd (.sl 0 yBinding) l) (K : Bool -> Prop) :
  True /\ (K true -> Ev (fun n => laws_FnExactStraight.c n d l K)) := by
 refine ⟨trivial, fun hK => ?_⟩
 refine Ev.succ ?_
 simp only [laws_FnExactStraight.c, laws_FnExactStraight.w]
 rw [Z29_ev (by omega) (by omega) hd.1 (szDeclS_gd hd)]
 by_cases z1 : ((d.length + sDeclS d : Nat) : Int) <= 1048576
 rotate_left
 ·rw [szr_no z1]; exact Ev.pos (by simp) (Ev.const hK)
 rw [szr_ok z1]
 refine Ev.neg (by simp; omega) ?_
 rw [Z26_ev (by omega) (by omega) hg.1 (szBindingS_gd hg)]
 by_cases z2 : ((l.length + sBindingS l : Nat) : Int) <= 1048576 - ((d.length + sDeclS d : Nat) : Int)
 rotate_left
 ·rw [szr_no z2]; exact Ev.pos (by simp) (Ev.const hK)
 rw [szr_ok z2]
 refine Ev.neg (by simp; omega) ?_
 have hy : ∀ y ∈ l, ∀ x : tTNode, x ∈ y.2 -> Wd x.2.2.2.2.2.1 /\ x.2.2.2.2.2.2.length <= 1099511627776 := fun y hy => term_wd (hg.2 y hy).2 (by have := sBindingS_mem hy; omega)
 have t1 := fun R => Z39_ev (l := d) (by omega) R
 have t2 := fun R => Z36_ev (l := l) (by omega) R
 have e1 := fun R => Z19_ev (l := d) (l' := d) (by omega) R
 have e2 := fun R => Z16_ev (l := l) (l' := l) (by omega) (eqBindingS_of (by omega)) R
 simp only [beq_self_eq_true, decide_true, and_self] at e1 e2
 rw [t1, t2]
 refine straightS_wp (by omega) hy _ ?_
 rw [t1, t2]
 refine straightI_wp (by omega) (by omega) _ ?_
 refine Ev.neg (by simp) ?_
 rw [t1, e1]
 refine Ev.neg (by simp) ?_
 rw [t2, e2]
 exact Ev.neg (by simp) (Ev.const hK)
end Go.Vsi
end
