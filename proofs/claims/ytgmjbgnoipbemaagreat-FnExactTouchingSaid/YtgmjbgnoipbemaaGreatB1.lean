/- What the told functions answer. No statement is proved here. -/
import Derived.Test.YtgmjbgnoipbemaaGreatA1

section
set_option linter.unusedVariables false
namespace Go.Vsi
def Ev (P : Nat -> Prop) : Prop := ∃ N, ∀ n, N <= n -> P n
theorem Ev.succ {P : Nat -> Prop} : Ev (fun n => P (n + 1)) -> Ev P
 | ⟨N, h⟩ => ⟨N + 1, fun n hn => by obtain ⟨m, rfl⟩ : ∃ m, n = m + 1 := ⟨n - 1, by omega⟩; exact h m (by omega)⟩
theorem Ev.shift {P : Nat -> Prop} : Ev P -> Ev (fun n => P (n + 1))
 | ⟨N, h⟩ => ⟨N, fun n hn => h (n + 1) (by omega)⟩
theorem Ev.and {P Q : Nat -> Prop} : Ev P -> Ev Q -> Ev (fun n => P n /\ Q n)
 | ⟨N, h⟩, ⟨M, g⟩ => ⟨max N M, fun n hn => ⟨h n (by omega), g n (by omega)⟩⟩
theorem Ev.const {p : Prop} (h : p) : Ev (fun _ => p) := ⟨0, fun _ _ => h⟩
theorem Ev.imp {P Q : Nat -> Prop} (hpq : ∀ n, P n -> Q n) : Ev P -> Ev Q
 | ⟨N, h⟩ => ⟨N, fun n hn => hpq n (h n hn)⟩
theorem Ev.grd {b : Bool} {P : Nat -> Prop} (hb : b = true) (h : Ev P) : Ev (fun n => grd b (P n)) := by
 subst hb; exact h
theorem Ev.ite {c : Prop} [Decidable c] {P Q : Nat -> Prop} (h1 : c -> Ev P) (h2 : ¬ c -> Ev Q) : Ev (fun n => if c then P n else Q n) := by
 by_cases h : c
 ·simp only [if_pos h]; exact h1 h
 ·simp only [if_neg h]; exact h2 h
theorem Ev.pos {c : Prop} [Decidable c] {P Q : Nat -> Prop} (h : c) (h1 : Ev P) : Ev (fun n => if c then P n else Q n) := by
 simp only [if_pos h]; exact h1
theorem Ev.neg {c : Prop} [Decidable c] {P Q : Nat -> Prop} (h : ¬ c) (h1 : Ev Q) : Ev (fun n => if c then P n else Q n) := by
 simp only [if_neg h]; exact h1
theorem Ev.some {P : Nat -> Prop} : Ev P -> ∃ n, P n
 | ⟨N, h⟩ => ⟨N, h N (Nat.le_refl _)⟩
theorem wrap64 {x : Int} (h1 : -9223372036854775808 <= x) (h2 : x < 9223372036854775808) : IntKind.wrap .i64 x = x := by
 simp only [IntKind.wrap, IntKind.bits, IntKind.signed, Bool.true_and]
 split <;> simp_all <;> omega
theorem wrapU {x : Int} (h1 : 0 <= x) (h2 : x < 18446744073709551616) : IntKind.wrap .u64 x = x := by
 simp only [IntKind.wrap, IntKind.bits, IntKind.signed, Bool.false_and]
 simp; omega
theorem wrap8 {x : Int} (h1 : 0 <= x) (h2 : x < 256) : IntKind.wrap .u8 x = x := by
 simp only [IntKind.wrap, IntKind.bits, IntKind.signed, Bool.false_and]
 simp; omega
theorem tdivP {x m : Int} (h : 0 <= x) : Int.tdiv x m = x / m := Int.tdiv_eq_ediv_of_nonneg h
theorem tmodP {x m : Int} (h : 0 <= x) : Int.tmod x m = x % m := Int.tmod_eq_emod_of_nonneg h
theorem fdivP {x m : Int} (h : 0 <= m) : Int.fdiv x m = x / m := Int.fdiv_eq_ediv_of_nonneg x h
def W (ws : List Nat) : List Int := ws.map Int.ofNat
theorem W_len (ws : List Nat) : (W ws).length = ws.length := by simp [W]
theorem W_rd (ws : List Nat) (i : Nat) : rd (W ws) i = ((ws.getD i 0 : Nat) : Int) := by
 simp only [rd, W, List.getD_eq_getElem?_getD, List.getElem?_map]
 cases ws[i]? <;> rfl
def Below (m : Nat) (ws : List Nat) : Prop := ∀ x ∈ ws, x < m
theorem W_of {m : Nat} : ∀ {l : List Int}, (∀ x ∈ l, 0 <= x /\ x < (m : Int)) -> ∃ ws, l = W ws /\ Below m ws
 | [], _ => ⟨[], rfl, by simp [Below]⟩
 | x :: l, h => by
  obtain ⟨ws, rfl, hb⟩ := W_of (l := l) fun y hy => h y (by simp [hy])
  have hx := h x (by simp)
  refine ⟨x.toNat :: ws, ?_, ?_⟩
  ·simp only [W, List.map_cons, List.cons.injEq, and_true]
   show x = (x.toNat : Int); omega
  ·intro y hy
   simp only [List.mem_cons] at hy
   rcases hy with rfl | hy
   ·omega
   ·exact hb y hy
theorem Below.getD {m : Nat} {ws : List Nat} (h : Below m ws) (hm : 0 < m) (i : Nat) : ws.getD i 0 < m := by
 rw [List.getD_eq_getElem?_getD]
 cases hw : ws[i]? with
 | none => exact hm
 | some y => exact h y (List.mem_of_getElem? hw)
theorem Below.set {m : Nat} {ws : List Nat} (h : Below m ws) {i x : Nat} (hx : x < m) : Below m (ws.set i x) := by
 intro y hy
 rcases List.mem_or_eq_of_mem_set hy with h' | rfl
 ·exact h y h'
 ·exact hx
theorem Below.app {m : Nat} {a b : List Nat} (ha : Below m a) (hb : Below m b) : Below m (a ++ b) := by
 intro y hy
 rcases List.mem_append.mp hy with h | h
 ·exact ha y h
 ·exact hb y h
theorem and_W {a b : Nat} (ha : a < 18446744073709551616) (hb : b < 18446744073709551616) : ibits .and .u64 (a : Int) (b : Int) = ((a &&& b : Nat) : Int) := by
 have hab : a &&& b < 2 ^ 64 := Nat.and_lt_two_pow a hb
 show IntKind.wrap .u64 (((BitVec.ofInt 64 (a : Int) &&& BitVec.ofInt 64 (b : Int) : BitVec 64).toNat : Nat) : Int) = _
 rw [BitVec.toNat_and, BitVec.ofInt_natCast, BitVec.ofInt_natCast, BitVec.toNat_ofNat, BitVec.toNat_ofNat]
 rw [Nat.mod_eq_of_lt ha, Nat.mod_eq_of_lt hb]
 exact wrapU (by omega) (by omega)
theorem shr_W (a k : Nat) (hk : k <= 64) : Int.fdiv (a : Int) (2 ^ (Nat.min k 64)) = ((a >>> k : Nat) : Int) := by
 rw [fdivP (Int.le_of_lt (Int.pow_pos (by decide))), show Nat.min k 64 = k from Nat.min_eq_left hk, Nat.shiftRight_eq_div_pow]
 simp
def bit (ws : List Nat) (i : Nat) : Bool := (ws.getD (i / 64) 0).testBit (i % 64)
theorem bit_out {ws : List Nat} {i : Nat} (h : 64 * ws.length <= i) : bit ws i = false := by
 have : ws.length <= i / 64 := by omega
 simp [bit, List.getD_eq_getElem?_getD, List.getElem?_eq_none this]
end Go.Vsi
end

section
set_option linter.unusedVariables false
namespace Go.Vsi
theorem Ev.suc {P : Nat -> Prop} : Ev P ↔ Ev (fun n => P (n + 1)) := ⟨Ev.shift, Ev.succ⟩
theorem Ev.s0 (R : Nat -> Prop) : Ev (fun n => R (n + 1)) ↔ Ev (fun n => R n) := ⟨Ev.succ, Ev.shift⟩
theorem Ev.s1 {α : Type} (R : Nat -> α -> Prop) (a : α) : Ev (fun n => R (n + 1) a) ↔ Ev (fun n => R n a) := Ev.s0 (fun n => R n a)
theorem Ev.s2 {α β : Type} (R : Nat -> α -> β -> Prop) (a : α) (b : β) : Ev (fun n => R (n + 1) a b) ↔ Ev (fun n => R n a b) := Ev.s0 (fun n => R n a b)
theorem Ev.s3 {α β γ : Type} (R : Nat -> α -> β -> γ -> Prop) (a : α) (b : β) (c : γ) : Ev (fun n => R (n + 1) a b c) ↔ Ev (fun n => R n a b c) := Ev.s0 (fun n => R n a b c)
theorem Ev.s4 {α β γ δ : Type} (R : Nat -> α -> β -> γ -> δ -> Prop) (a : α) (b : β) (c : γ) (d : δ) : Ev (fun n => R (n + 1) a b c d) ↔ Ev (fun n => R n a b c d) := Ev.s0 (fun n => R n a b c d)
theorem Ev.s6 {α β γ δ ε ζ : Type} (R : Nat -> α -> β -> γ -> δ -> ε -> ζ -> Prop) (a : α) (b : β) (c : γ) (d : δ) (e : ε) (f : ζ) : Ev (fun n => R (n + 1) a b c d e f) ↔ Ev (fun n => R n a b c d e f) := Ev.s0 (fun n => R n a b c d e f)
theorem Ev.s7 {α β γ δ ε ζ η : Type} (R : Nat -> α -> β -> γ -> δ -> ε -> ζ -> η -> Prop) (a : α) (b : β) (c : γ) (d : δ) (e : ε) (f : ζ) (g : η) : Ev (fun n => R (n + 1) a b c d e f g) ↔ Ev (fun n => R n a b c d e f g) := Ev.s0 (fun n => R n a b c d e f g)
theorem Ev.s8 {α β γ δ ε ζ η θ : Type} (R : Nat -> α -> β -> γ -> δ -> ε -> ζ -> η -> θ -> Prop) (a : α) (b : β) (c : γ) (d : δ) (e : ε) (f : ζ) (g : η) (h : θ) : Ev (fun n => R (n + 1) a b c d e f g h) ↔ Ev (fun n => R n a b c d e f g h) := Ev.s0 (fun n => R n a b c d e f g h)
theorem Ev.s9 {α β γ δ ε ζ η θ ι : Type} (R : Nat -> α -> β -> γ -> δ -> ε -> ζ -> η -> θ -> ι -> Prop) (a : α) (b : β) (c : γ) (d : δ) (e : ε) (f : ζ) (g : η) (h : θ) (i : ι) : Ev (fun n => R (n + 1) a b c d e f g h i) ↔ Ev (fun n => R n a b c d e f g h i) := Ev.s0 (fun n => R n a b c d e f g h i)
theorem Ev.s10 {α β γ δ ε ζ η θ ι κ : Type} (R : Nat -> α -> β -> γ -> δ -> ε -> ζ -> η -> θ -> ι -> κ -> Prop) (a : α) (b : β) (c : γ) (d : δ) (e : ε) (f : ζ) (g : η) (h : θ) (i : ι) (j : κ) : Ev (fun n => R (n + 1) a b c d e f g h i j) ↔ Ev (fun n => R n a b c d e f g h i j) := Ev.s0 (fun n => R n a b c d e f g h i j)
@[simp] theorem Ev.k {p : Prop} : Ev (fun _ => p) ↔ p := ⟨fun ⟨_, h⟩ => h _ (Nat.le_refl _), Ev.const⟩
@[simp] theorem Ev.iteI {c : Prop} [Decidable c] {P Q : Nat -> Prop} : Ev (fun n => if c then P n else Q n) ↔ if c then Ev P else Ev Q := by
 by_cases h : c <;> simp only [h, if_true, if_false]
@[simp] theorem Ev.andI {P Q : Nat -> Prop} : Ev (fun n => P n /\ Q n) ↔ Ev P /\ Ev Q :=
 ⟨fun ⟨N, h⟩ => ⟨⟨N, fun n hn => (h n hn).1⟩, ⟨N, fun n hn => (h n hn).2⟩⟩, fun h => Ev.and h.1 h.2⟩
theorem grd_dec {p : Prop} [Decidable p] {P : Prop} (h : p) : grd (decide p) P ↔ P := by rw [decide_eq_true h]; exact Iff.rfl
theorem grd_dec2 {p q : Prop} [Decidable p] [Decidable q] {P : Prop} (h : p /\ q) : grd (decide p && decide q) P ↔ P := by rw [decide_eq_true h.1, decide_eq_true h.2]; exact Iff.rfl
theorem grd_dec3 {p q r : Prop} [Decidable p] [Decidable q] [Decidable r] {P : Prop} (h : p /\ q /\ r) : grd (decide p && decide q && decide r) P ↔ P := by rw [decide_eq_true h.1, decide_eq_true h.2.1, decide_eq_true h.2.2]; exact Iff.rfl
@[simp] theorem grd_true {P : Prop} : grd true P ↔ P := Iff.rfl
theorem drop_nil {α : Type} {l : List α} {x : Int} (h : l.drop x.toNat = []) (h0 : 0 <= x) : (l.length : Int) <= x := by
 have := List.drop_eq_nil_iff.1 h; omega
theorem drop_cons {α : Type} [Inhabited α] {l ys : List α} {x : Int} {y : α} (h : l.drop x.toNat = y :: ys) (h0 : 0 <= x) :
  x < (l.length : Int) /\ rd l x.toNat = y /\ l.drop (x + 1).toNat = ys := by
 have hl : x.toNat < l.length := by
  rcases Nat.lt_or_ge x.toNat l.length with h' | h'
  ·exact h'
  ·rw [List.drop_eq_nil_of_le h'] at h; cases h
 refine ⟨by omega, ?_, ?_⟩
 ·have := List.getElem?_drop (xs := l) (i := x.toNat) (j := 0)
  rw [h] at this
  simp only [List.getElem?_cons_zero, Nat.add_zero] at this
  simp [rd, List.getD_eq_getElem?_getD, <- this]
 ·rw [show (x + 1).toNat = x.toNat + 1 from by omega, <- List.drop_drop, h]; rfl
theorem drop_set {α : Type} {l ys : List α} {x : Int} {v : α} (h : l.drop (x + 1).toNat = ys) (h0 : 0 <= x) : (l.set x.toNat v).drop (x + 1).toNat = ys := by
 rw [List.drop_set_of_lt (by omega), h]
theorem take_set {α : Type} {l : List α} {x : Int} {v : α} (h0 : 0 <= x) (hx : x < (l.length : Int)) : (l.set x.toNat v).take (x + 1).toNat = l.take x.toNat ++ [v] := by
 have e : (x + 1).toNat = x.toNat + 1 := by omega
 have hl : x.toNat < l.length := by omega
 rw [e, List.take_succ_eq_append_getElem (by simpa using hl), List.take_set_of_le (by omega)]
 simp
theorem rd_set {α : Type} [Inhabited α] {l : List α} {i : Nat} {v : α} (h : i < l.length) : rd (l.set i v) i = v := by
 simp [rd, List.getD_eq_getElem?_getD, h]
theorem ev_arg {α : Type} {R : Nat -> α -> Prop} {a b : α} (h : a = b) : Ev (fun n => R n a) ↔ Ev (fun n => R n b) := by rw [h]
theorem ev_bool {R : Nat -> Bool -> Prop} {b : Bool} : (if b = true then Ev (fun n => R n true) else Ev (fun n => R n false)) ↔ Ev (fun n => R n b) := by cases b <;> simp
theorem ev_arg2 {α β : Type} {R : Nat -> α -> β -> Prop} {a b : α} {c : β} (h : a = b) : Ev (fun n => R n a c) ↔ Ev (fun n => R n b c) := by rw [h]
theorem ev_arg3 {α β : Type} {R : Nat -> α -> β -> Prop} {a b : α} {c d : β} (h : a = b) (h' : c = d) : Ev (fun n => R n a c) ↔ Ev (fun n => R n b d) := by rw [h, h']
def Gd : (t : Ty) -> t.T -> Prop
 | .int k, n => k.min <= n /\ n <= k.max
 | .str, s => s.length <= 9223372036854775807
 | .sl _ t, l => l.length <= 9223372036854775807 /\ ∀ y, y ∈ l -> Gd t y
 | .prod a b, p => Gd a p.1 /\ Gd b p.2
 | .bool, _ => True
 | .unit, _ => True
 | .ptr _ _, _ => True
def firstIx {α : Type} (p : α -> Bool) : List α -> Int -> Int
 | [], _ => -1
 | y :: r, x => if p y = true then x else firstIx p r (x + 1)
theorem firstIx_neg {α : Type} {p : α -> Bool} : ∀ {l : List α} {x : Int}, 0 <= x -> firstIx p l x < 0 -> firstIx p l x = -1
 | [], x, _, _ => rfl
 | y :: l, x, h0, h => by
  rw [firstIx] at h ⊢
  split
  ·rename_i hp; rw [if_pos hp] at h; omega
  ·rename_i hp; rw [if_neg hp] at h; exact firstIx_neg (by omega) h
theorem firstIx_any {α : Type} {p : α -> Bool} : ∀ {l : List α} {x : Int}, 0 <= x -> decide (firstIx p l x >= 0) = l.any p
 | [], x, _ => by simp [firstIx]
 | y :: l, x, h0 => by
  rw [firstIx, List.any_cons]
  by_cases hp : p y = true
  ·simp [hp, h0]
  ·rw [if_neg hp, firstIx_any (by omega)]
   simp only [Bool.not_eq_true] at hp
   simp [hp]
def szr (left : Int) (z : Nat) : Int := if left < z then -1 else left - z
theorem szr_neg {left : Int} {z : Nat} : szr left z < 0 ↔ left < z := by unfold szr; split <;> omega
theorem szr_ok {left : Int} {z : Nat} (h : (z : Int) <= left) : szr left z = left - z := by unfold szr; rw [if_neg (by omega)]
theorem szr_no {left : Int} {z : Nat} (h : ¬ (z : Int) <= left) : szr left z = -1 := by unfold szr; rw [if_pos (by omega)]
theorem szr_two {left : Int} {y z : Nat} (h : 0 <= left) (hy : ¬ szr left y < 0) : szr (szr left y) z = szr left (y + z) := by
 rw [szr_neg] at hy
 unfold szr; split <;> split <;> split <;> omega
theorem szr_back {left : Int} {y z : Nat} (h : szr left y < 0) : szr left (y + z) = -1 := by
 rw [szr_neg] at h; unfold szr; split <;> omega
theorem szr_m1 {left : Int} {z : Nat} (h : -1 <= left) : -1 <= szr left z := by unfold szr; split <;> omega
theorem szr_le' {left b : Int} {z : Nat} (h : -1 <= left) (h' : left <= b) : szr left z <= b := by unfold szr; split <;> omega
end Go.Vsi
end

section
set_option linter.unusedVariables false
set_option linter.unusedSimpArgs false
set_option synthInstance.maxSize 4096
namespace Go.Vsi
end Go.Vsi
end

section
set_option linter.unusedVariables false
set_option linter.unusedSimpArgs false
set_option synthInstance.maxSize 4096
namespace Go.Vsi
def Wd (l : List Int) : Prop := ∀ x ∈ l, 0 <= x /\ x <= 18446744073709551615
def bitsOk (w : Int) (l : List Int) : Bool := decide (1 <= w /\ w <= 4096 /\ (l.length : Int) = (w + 63) / 64 /\ (w % 64 = 0 \/ rd l (l.length - 1) / 2 ^ (w % 64).toNat = 0))
theorem bit_div {x j : Nat} : x / 2 ^ j % 2 = (x.testBit j).toNat := by
 rw [Nat.testBit, Nat.shiftRight_eq_div_pow, Nat.one_and_eq_mod_two]
 rcases Nat.mod_two_eq_zero_or_one (x / 2 ^ j) with h | h <;> simp [h]
theorem l1In_ev {a b c : Int} (R : Nat -> Bool -> Prop) : Ev (fun n => Z76.c n a b c (R n)) ↔ Ev (fun n => R n (decide (b <= a /\ a <= c))) := by
 refine Ev.suc.trans ?_
 simp only [Z76.c, Z76.w, Ev.iteI, decide_eq_true_eq, Ev.s1 R, ge_iff_le]
 split
 ·refine ev_arg ?_; rw [decide_eq_decide]; omega
 ·refine ev_arg ?_; symm; rw [decide_eq_false_iff_not]; omega
theorem inside_ev {a b c : Int} (R : Nat -> Bool -> Prop) : Ev (fun n => Z10.c n a b c (R n)) ↔ Ev (fun n => R n (decide (b <= a /\ a <= c))) := by
 refine Ev.suc.trans ?_
 simp only [Z10.c, Z10.w, Ev.iteI, decide_eq_true_eq, Ev.s1 R, ge_iff_le]
 split
 ·refine ev_arg ?_; rw [decide_eq_decide]; omega
 ·refine ev_arg ?_; symm; rw [decide_eq_false_iff_not]; omega
theorem wordsFor_ev {a : Int} (h0 : 0 <= a) (h1 : a <= 1000000000) (R : Nat -> Int -> Prop) : Ev (fun n => Z18.c n a (R n)) ↔ Ev (fun n => R n ((a + 63) / 64)) := by
 refine Ev.suc.trans ?_
 simp (disch := omega) only [Z18.c, Z18.w, wrap64, tdivP, Ev.s1 R]
theorem l1Bit_ev {ws : List Nat} (hw : Below 18446744073709551616 ws) {k : Nat} (hk : k < 64 * ws.length) (hl : ws.length <= 4096) {w : Int} (R : Nat -> Int -> Prop) :
  Ev (fun n => Z73.c n w (W ws) k (R n)) ↔ Ev (fun n => R n ((bit ws k).toNat : Int)) := by
 refine Ev.suc.trans ?_
 have e : ibits .and .u64 ((ws.getD (k / 64) 0 >>> (k % 64) : Nat) : Int) 1 = (((bit ws k).toNat : Nat) : Int) := by
  have hx : ws.getD (k / 64) 0 >>> (k % 64) < 18446744073709551616 := by
   rw [Nat.shiftRight_eq_div_pow]; exact Nat.lt_of_le_of_lt (Nat.div_le_self _ _) (hw.getD (by decide) _)
  rw [show (1 : Int) = ((1 : Nat) : Int) from rfl, and_W hx (by decide), Nat.and_one_is_mod, Nat.shiftRight_eq_div_pow, bit_div]; rfl
 have e1 : Int.toNat ((k : Int) / 64) = k / 64 := by omega
 have e2 : Int.toNat ((k : Int) % 64) = k % 64 := by omega
 simp (disch := omega) only [Z73.c, Z73.w, W_len, tdivP, tmodP, wrap64, wrapU, grd_dec2, grd_dec, e1, e2, W_rd, shr_W, e]
 rw [wrap8 (by omega) (by cases bit ws k <;> simp), Ev.s1 R]
theorem specOk_lp {ws : List Nat} (hw : Below 18446744073709551616 ws) (hl : ws.length <= 4096) {w : Int} : ∀ (m k : Nat), k + m = 64 * ws.length -> ∃ b : Bool, (b = true ↔ ∀ i, k <= i -> bit ws i = false) /\
  ∀ (Kx : Nat -> Prop) (Kr : Nat -> Bool -> Prop), (Ev (fun n => Z65.l4 n w (W ws) k (Kx n) (Kr n)) ↔ if b = true then Ev Kx else Ev (fun n => Kr n false))
 | 0, k, h => by
  refine ⟨true, ⟨fun _ i hi => bit_out (by omega), fun _ => rfl⟩, fun Kx Kr => ?_⟩
  refine Ev.suc.trans ?_
  simp (disch := omega) only [Z65.l4, Z65.l4.b, W_len, wrap64, if_neg, decide_eq_true_eq, Ev.s0 Kx, if_true]
 | m + 1, k, h => by
  obtain ⟨b, hb, kk⟩ := specOk_lp hw hl (w := w) m (k + 1) (by omega)
  refine ⟨b && !bit ws k, ?_, fun Kx Kr => ?_⟩
  ·simp only [Bool.and_eq_true, Bool.not_eq_true', hb]
   constructor
   ·rintro ⟨h1, h2⟩ i hi
    rcases Nat.lt_or_eq_of_le hi with h' | rfl
    ·exact h1 i h'
    ·exact h2
   ·exact fun h => ⟨fun i hi => h i (by omega), h k (Nat.le_refl _)⟩
  ·refine Ev.suc.trans ?_
   have e : ((k : Int) + 1) = ((k + 1 : Nat) : Int) := by omega
   simp (disch := omega) only [Z65.l4, Z65.l4.b, W_len, wrap64, if_pos, decide_eq_true_eq, l1Bit_ev hw _ hl, Ev.iteI, Bool.not_eq_true', decide_eq_false_iff_not, e, kk, Ev.s0 Kx, Ev.s1 Kr]
   cases bit ws k <;> simp
theorem top_last {w : Int} {ws : List Nat} (hw : Below 18446744073709551616 ws) (h1 : 1 <= w) (h2 : (ws.length : Int) = (w + 63) / 64) (hr : w % 64 ≠ 0) :
  ws.getD (ws.length - 1) 0 >>> (w % 64).toNat = 0 ↔ ∀ i : Nat, w <= i -> bit ws i = false := by
 constructor
 ·intro h i hi
  by_cases ho : 64 * ws.length <= i
  ·exact bit_out ho
  ·have e1 : i / 64 = ws.length - 1 := by omega
   have := congrArg (fun y => Nat.testBit y (i % 64 - (w % 64).toNat)) h
   simp only [Nat.testBit_shiftRight, Nat.zero_testBit] at this
   rw [show (w % 64).toNat + (i % 64 - (w % 64).toNat) = i % 64 from by omega] at this
   rw [bit, e1]; exact this
 ·intro h
  apply Nat.eq_of_testBit_eq
  intro j
  rw [Nat.testBit_shiftRight, Nat.zero_testBit]
  by_cases hj : (w % 64).toNat + j < 64
  ·have := h (64 * (ws.length - 1) + ((w % 64).toNat + j)) (by omega)
   rw [bit, show (64 * (ws.length - 1) + ((w % 64).toNat + j)) / 64 = ws.length - 1 from by omega, show (64 * (ws.length - 1) + ((w % 64).toNat + j)) % 64 = (w % 64).toNat + j from by omega] at this
   exact this
  ·exact Nat.testBit_lt_two_pow (Nat.lt_of_lt_of_le (hw.getD (by decide) _) (Nat.pow_le_pow_right (n := 2) (by decide) (Nat.not_lt.mp hj)))
theorem bitsOk_W {w : Int} {ws : List Nat} (hw : Below 18446744073709551616 ws) : bitsOk w (W ws) = true ↔ 1 <= w /\ w <= 4096 /\ (ws.length : Int) = (w + 63) / 64 /\ ∀ i : Nat, w <= i -> bit ws i = false := by
 rw [bitsOk, decide_eq_true_eq, W_len, W_rd]
 refine ⟨fun ⟨h1, h2, h3, h4⟩ => ⟨h1, h2, h3, ?_⟩, fun ⟨h1, h2, h3, h4⟩ => ⟨h1, h2, h3, ?_⟩⟩
 ·by_cases h5 : w % 64 = 0
  ·exact fun i hi => bit_out (by omega)
  ·rcases h4 with h4 | h4
   ·exact absurd h4 h5
   ·rw [<- top_last hw h1 h3 h5, Nat.shiftRight_eq_div_pow]
    exact_mod_cast h4
 ·by_cases h5 : w % 64 = 0
  ·exact Or.inl h5
  ·have := (top_last hw h1 h3 h5).2 h4
   rw [Nat.shiftRight_eq_div_pow] at this
   exact Or.inr (by exact_mod_cast this)
theorem Wd.of {l : List Int} (h : Wd l) : ∃ ws, l = W ws /\ Below 18446744073709551616 ws := W_of fun x hx => ⟨(h x hx).1, by have := (h x hx).2; omega⟩
theorem specOk_ev {w : Int} {l : List Int} (hw : Wd l) (R : Nat -> Bool -> Prop) : Ev (fun n => Z65.c n w l (R n)) ↔ Ev (fun n => R n (bitsOk w l)) := by
 obtain ⟨ws, rfl, hB⟩ := hw.of
 have hiff := bitsOk_W (w := w) hB
 refine Ev.suc.trans ?_
 simp (disch := omega) only [Z65.c, Z65.w, l1In_ev, Ev.iteI, Bool.not_eq_false', Bool.not_eq_true', decide_eq_true_eq, decide_eq_false_iff_not, W_len]
 by_cases h1 : 1 <= w /\ w <= 4096
 ·rw [if_pos h1, wrap64 (x := w + 63) (by omega) (by omega), tdivP (by omega), wrap64 (by omega) (by omega)]
  by_cases h2 : (ws.length : Int) = (w + 63) / 64
  ·obtain ⟨b, hb, kk⟩ := specOk_lp hB (by omega) (w := w) (64 * ws.length - w.toNat) w.toNat (by omega)
   have e : ((w.toNat : Nat) : Int) = w := by omega
   rw [e] at kk
   rw [if_neg (by omega), kk, Ev.s1 R, Ev.s1 R]
   have : b = bitsOk w (W ws) := by
    rw [Bool.eq_iff_iff, hb, hiff]
    exact ⟨fun h => ⟨h1.1, h1.2, h2, fun i hi => h i (by omega)⟩, fun h i hi => h.2.2.2 i (by omega)⟩
   rw [<- this]
   cases b <;> rfl
  ·rw [if_pos h2, Ev.s1 R]
   have : bitsOk w (W ws) = false := by
    rw [Bool.eq_false_iff]; intro h; exact h2 (hiff.1 h).2.2.1
   rw [this]
 ·rw [if_neg h1, Ev.s1 R]
  have : bitsOk w (W ws) = false := by
   rw [Bool.eq_false_iff]; intro h; exact h1 ⟨(hiff.1 h).1, (hiff.1 h).2.1⟩
  rw [this]
theorem implOk_ev {w : Int} {l : List Int} (R : Nat -> Bool -> Prop) : Ev (fun n => Z0.c n w l (R n)) ↔ Ev (fun n => R n (bitsOk w l)) := by
 refine Ev.suc.trans ?_
 simp only [Z0.c, Z0.w, inside_ev, Ev.iteI, Ev.andI, Bool.not_eq_false', Bool.not_eq_true', decide_eq_true_eq, decide_eq_false_iff_not, Ev.s1 R, and_self]
 by_cases h1 : 1 <= w /\ w <= 4096
 ·rw [if_pos h1]
  simp (disch := omega) only [wordsFor_ev, Ev.iteI, Bool.not_eq_true', decide_eq_false_iff_not, Ev.s1 R]
  by_cases h2 : (l.length : Int) = (w + 63) / 64
  ·rw [if_neg (by omega)]
   simp (disch := omega) only [Z0.j0, tmodP, Ev.iteI, decide_eq_false_iff_not, wrap64, grd_dec2, grd_dec, Ev.s1 R]
   by_cases h3 : w % 64 = 0
   ·rw [if_neg (by omega), show bitsOk w l = true from by simp [bitsOk, h1, h2, h3]]
   ·rw [if_pos h3]
    refine ev_arg ?_
    have e1 : ((l.length : Int) - 1).toNat = l.length - 1 := by omega
    have e2 : Nat.min (w % 64).toNat 64 = (w % 64).toNat := Nat.min_eq_left (by omega)
    rw [e1, e2, fdivP (Int.le_of_lt (Int.pow_pos (by decide)))]
    simp [bitsOk, h1, h2, h3]
  ·rw [if_pos h2, show bitsOk w l = false from by simp [bitsOk, h2]]
 ·rw [if_neg h1, show bitsOk w l = false from by
   rw [Bool.eq_false_iff]; intro h; rw [bitsOk, decide_eq_true_eq] at h; exact h1 ⟨h.1, h.2.1⟩]
end Go.Vsi
end

section
set_option linter.unusedVariables false
set_option linter.unusedSimpArgs false
set_option synthInstance.maxSize 4096
namespace Go.Vsi
theorem getD_cons {l ys : List UInt8} {x : Int} {y : UInt8} (h : l.drop x.toNat = y :: ys) (h0 : 0 <= x) : x < (l.length : Int) /\ List.getD l x.toNat 0 = y /\ l.drop (x + 1).toNat = ys :=
 drop_cons h h0
def chOk (c : UInt8) : Bool := decide ((97 <= (c.toNat : Int) /\ (c.toNat : Int) <= 122) \/ (48 <= (c.toNat : Int) /\ (c.toNat : Int) <= 57))
def nameOk (s : List UInt8) : Bool := decide (1 <= s.length /\ s.length <= 12 /\ 97 <= ((List.getD s 0 0).toNat : Int) /\ ((List.getD s 0 0).toNat : Int) <= 122) && s.all chOk
theorem nameOk_lp {s : List UInt8} (hl : s.length <= 1099511627776) : ∀ (ys : List UInt8) (x : Int), s.drop x.toNat = ys -> 0 <= x -> ∀ (Kx : Nat -> Prop) (Kr : Nat -> Bool -> Prop),
  (Ev (fun n => Z12.l4 n s x (Kx n) (Kr n)) ↔ if ys.all chOk = true then Ev Kx else Ev (fun n => Kr n false))
 | [], x, h, h0, Kx, Kr => by
  have := drop_nil h h0
  refine Ev.suc.trans ?_
  simp (disch := omega) only [Z12.l4, Z12.l4.b, if_neg, decide_eq_true_eq, Ev.s0 Kx, List.all_nil, if_true]
 | y :: ys, x, h, h0, Kx, Kr => by
  obtain ⟨e1, e2, e3⟩ := getD_cons h h0
  refine Ev.suc.trans ?_
  simp (disch := omega) only [Z12.l4, Z12.l4.b, if_pos, decide_eq_true_eq, decide_eq_false_iff_not, grd_dec2, e2, wrap64, Ev.iteI, nameOk_lp hl ys (x + 1) e3, Ev.s0 Kx, Ev.s1 Kr, List.all_cons, Bool.and_eq_true]
  simp only [chOk, decide_eq_true_eq]
  (repeat' split) <;> first | rfl | (exfalso; omega) | (exfalso; simp_all; omega) | (simp_all; done)
theorem nameOk_ev {s : List UInt8} (R : Nat -> Bool -> Prop) : Ev (fun n => Z12.c n s (R n)) ↔ Ev (fun n => R n (nameOk s)) := by
 refine Ev.suc.trans ?_
 simp only [Z12.c, Z12.w, Ev.iteI, decide_eq_true_eq, decide_eq_false_iff_not, nameOk]
 by_cases h1 : 1 <= s.length /\ s.length <= 12
 ·rw [if_pos (by omega), if_pos (by omega)]
  simp (disch := omega) only [grd_dec, Ev.iteI, nameOk_lp (by omega) s 0 rfl, Ev.s1 R, decide_eq_false_iff_not, decide_eq_true_eq]
  by_cases h2 : 97 <= ((List.getD s 0 0).toNat : Int) /\ ((List.getD s 0 0).toNat : Int) <= 122
  ·rw [if_pos (by omega), if_neg (by omega)]
   rw [show (decide (1 <= s.length /\ s.length <= 12 /\ 97 <= ((List.getD s 0 0).toNat : Int) /\ ((List.getD s 0 0).toNat : Int) <= 122)) = true from by rw [decide_eq_true_eq]; omega, Bool.true_and]
   exact ev_bool
  ·rw [show (decide (1 <= s.length /\ s.length <= 12 /\ 97 <= ((List.getD s 0 0).toNat : Int) /\ ((List.getD s 0 0).toNat : Int) <= 122)) = false from by rw [decide_eq_false_iff_not]; omega, Bool.false_and]
   split <;> (try split) <;> first | rfl | (exfalso; omega)
 ·rw [show (decide (1 <= s.length /\ s.length <= 12 /\ 97 <= ((List.getD s 0 0).toNat : Int) /\ ((List.getD s 0 0).toNat : Int) <= 122)) = false from by rw [decide_eq_false_iff_not]; omega, Bool.false_and, Ev.s1 R]
  split <;> (try split) <;> first | rfl | (exfalso; omega)
theorem l1Digit_ev {a : Int} (R : Nat -> Bool -> Prop) : Ev (fun n => Z74.c n a (R n)) ↔ Ev (fun n => R n (decide (48 <= a /\ a <= 57))) := by
 refine Ev.suc.trans ?_
 simp only [Z74.c, Z74.w, Ev.iteI, decide_eq_true_eq, Ev.s1 R, ge_iff_le]
 split
 ·refine ev_arg ?_; rw [decide_eq_decide]; omega
 ·refine ev_arg ?_; symm; rw [decide_eq_false_iff_not]; omega
theorem l1Name_lp {s : List UInt8} (hl : s.length <= 1099511627776) : ∀ (ys : List UInt8) (x : Int), s.drop x.toNat = ys -> 0 <= x -> ∀ (Kx : Nat -> Prop) (Kr : Nat -> Bool -> Prop),
  (Ev (fun n => Z77.l4 n s x (Kx n) (Kr n)) ↔ if ys.all chOk = true then Ev Kx else Ev (fun n => Kr n false))
 | [], x, h, h0, Kx, Kr => by
  have := drop_nil h h0
  refine Ev.suc.trans ?_
  simp (disch := omega) only [Z77.l4, Z77.l4.b, if_neg, decide_eq_true_eq, Ev.s0 Kx, List.all_nil, if_true]
 | y :: ys, x, h, h0, Kx, Kr => by
  obtain ⟨e1, e2, e3⟩ := getD_cons h h0
  refine Ev.suc.trans ?_
  simp (disch := omega) only [Z77.l4, Z77.l4.b, if_pos, decide_eq_true_eq, decide_eq_false_iff_not, Bool.not_eq_true', grd_dec2, e2, wrap64, l1Digit_ev, Ev.iteI, l1Name_lp hl ys (x + 1) e3, Ev.s0 Kx, Ev.s1 Kr, List.all_cons, Bool.and_eq_true]
  simp only [chOk, decide_eq_true_eq]
  (repeat' split) <;> first | rfl | (exfalso; omega) | (exfalso; simp_all; omega) | (simp_all; done)
theorem l1Name_ev {s : List UInt8} (R : Nat -> Bool -> Prop) : Ev (fun n => Z77.c n s (R n)) ↔ Ev (fun n => R n (nameOk s)) := by
 refine Ev.suc.trans ?_
 simp only [Z77.c, Z77.w, Ev.iteI, decide_eq_true_eq, decide_eq_false_iff_not, nameOk]
 by_cases h1 : 1 <= s.length /\ s.length <= 12
 ·rw [if_pos (by omega), if_pos (by omega)]
  simp (disch := omega) only [grd_dec, l1Digit_ev, Ev.iteI, l1Name_lp (by omega) s 0 rfl, Ev.s1 R, decide_eq_false_iff_not, decide_eq_true_eq]
  match s, h1 with
  | c :: r, h1 =>
   have e : (List.getD (c :: r) 0 0) = c := rfl
   rw [e]
   by_cases h2 : 48 <= (c.toNat : Int) /\ (c.toNat : Int) <= 57
   ·rw [if_pos h2, show (decide (1 <= (c :: r).length /\ (c :: r).length <= 12 /\ 97 <= (c.toNat : Int) /\ (c.toNat : Int) <= 122)) = false from by rw [decide_eq_false_iff_not]; omega, Bool.false_and]
   ·rw [if_neg h2]
    by_cases h3 : chOk c = true
    ·have : 97 <= (c.toNat : Int) /\ (c.toNat : Int) <= 122 := by
      rw [chOk, decide_eq_true_eq] at h3; omega
     rw [show (decide (1 <= (c :: r).length /\ (c :: r).length <= 12 /\ 97 <= (c.toNat : Int) /\ (c.toNat : Int) <= 122)) = true from by rw [decide_eq_true_eq]; omega, Bool.true_and]
     exact ev_bool
    ·rw [List.all_cons, if_neg (by simp [h3]), show chOk c = false from by simpa using h3, Bool.false_and, Bool.and_false]
  | [], h1 => simp at h1
 ·rw [show (decide (1 <= s.length /\ s.length <= 12 /\ 97 <= ((List.getD s 0 0).toNat : Int) /\ ((List.getD s 0 0).toNat : Int) <= 122)) = false from by rw [decide_eq_false_iff_not]; omega, Bool.false_and, Ev.s1 R]
  split <;> (try split) <;> first | rfl | (exfalso; omega)
theorem declared1_ev {a : List UInt8} {b : Int} {z : List UInt8} (R : Nat -> Bool -> Prop) : Ev (fun n => Z9.c n a b z (R n)) ↔ Ev (fun n => R n (decide (a = z))) := by
 refine Ev.suc.trans ?_
 simp only [Z9.c, Z9.w, Ev.s1 R]
 refine ev_arg ?_
 rw [Bool.eq_iff_iff]; simp
theorem Z61_lp {l : List tDecl} {z : List UInt8} (hl : l.length <= 1099511627776) : ∀ (ys : List tDecl) (x : Int), l.drop x.toNat = ys -> 0 <= x ->
  ∀ (Kx : Nat -> Prop) (Kr : Nat -> Int -> Prop),
  (Ev (fun n => Z61.l2 n l z l.length x (Kx n) (Kr n)) ↔ if firstIx (fun y => decide (y.1 = z)) ys x < 0 then Ev Kx else Ev (fun n => Kr n (firstIx (fun y => decide (y.1 = z)) ys x)))
 | [], x, h, h0, Kx, Kr => by
  have := drop_nil h h0
  rw [firstIx, if_pos (by decide)]
  refine Ev.suc.trans ?_
  simp (disch := omega) only [Z61.l2, Z61.l2.b, if_neg, decide_eq_true_eq, Ev.s0 Kx]
 | y :: ys, x, h, h0, Kx, Kr => by
  obtain ⟨e1, e2, e3⟩ := drop_cons h h0
  refine Ev.suc.trans ?_
  simp (disch := first | omega | omega) only [Z61.l2, Z61.l2.b, if_pos, decide_eq_true_eq, grd_dec2, e2, wrap64, Ev.s1 Kr, declared1_ev, Ev.iteI]
  rw [Z61_lp hl ys (x + 1) e3 (by omega), Ev.s0 Kx, Ev.s1 Kr]
  simp only [firstIx, decide_eq_true_eq]
  split
  ·rw [if_neg (by omega)]
  ·rfl
theorem Z61_ev {l : List tDecl} {z : List UInt8} (hl : l.length <= 1099511627776) (R : Nat -> Int -> Prop) :
  Ev (fun n => Z61.c n l z (R n)) ↔ Ev (fun n => R n (firstIx (fun y => decide (y.1 = z)) l 0)) := by
 refine Ev.suc.trans ?_
 simp only [Z61.c, Z61.w]
 rw [Z61_lp hl l 0 rfl (by omega), Ev.s1 R, Ev.s1 R]
 split
 ·rw [firstIx_neg (by omega) ‹_›]
 ·rfl
theorem declared_ev {l : List tDecl} {z : List UInt8} (hl : l.length <= 1099511627776) (R : Nat -> Int -> Prop) : Ev (fun n => Z8.c n l z (R n)) ↔ Ev (fun n => R n (firstIx (fun y => decide (y.1 = z)) l 0)) := by
 refine Ev.suc.trans ?_
 simp only [Z8.c, Z8.w]
 rw [Z61_ev hl, Ev.s1 R]
def declsGo : List tDecl -> List tDecl -> Int -> Bool
 | _, [], t => decide (t <= 20000)
 | pre, y :: r, t => nameOk y.1 && decide (1 <= y.2 /\ y.2 <= 4096) && !(pre.any fun z => decide (z.1 = y.1)) && declsGo (pre ++ [y]) r (t + y.2)
def declsOk (l : List tDecl) : Bool := decide (l.length <= 60) && declsGo [] l 0
theorem take_succ {α : Type} {l ys : List α} {x : Int} {y : α} (h : l.drop x.toNat = y :: ys) (h0 : 0 <= x) : l.take (x + 1).toNat = l.take x.toNat ++ [y] := by
 have hl : x.toNat < l.length := by
  rcases Nat.lt_or_ge x.toNat l.length with h' | h'
  ·exact h'
  ·rw [List.drop_eq_nil_of_le h'] at h; cases h
 rw [show (x + 1).toNat = x.toNat + 1 from by omega, List.take_succ_eq_append_getElem hl]
 congr 2
 have := List.getElem?_drop (xs := l) (i := x.toNat) (j := 0)
 rw [h] at this
 simp only [List.getElem?_cons_zero, Nat.add_zero, List.getElem?_eq_getElem hl, Option.some.injEq] at this
 exact this.symm
theorem declsOk_lp {l : List tDecl} (hl : l.length <= 60) : ∀ (ys : List tDecl) (x t : Int), l.drop x.toNat = ys -> 0 <= x -> 0 <= t -> t <= 4096 * x -> ∀ (R : Nat -> Bool -> Prop),
  (Ev (fun n => Z1.l5 n l l l.length t x (fun y => R n (decide (y <= 20000))) (R n)) ↔ Ev (fun n => R n (declsGo (l.take x.toNat) ys t)))
 | [], x, t, h, h0, ht, ht', R => by
  have := drop_nil h h0
  refine Ev.suc.trans ?_
  simp (disch := omega) only [Z1.l5, Z1.l5.b, if_neg, decide_eq_true_eq, Ev.s1 R, declsGo]
 | y :: ys, x, t, h, h0, ht, ht', R => by
  obtain ⟨e1, e2, e3⟩ := drop_cons h h0
  refine Ev.suc.trans ?_
  have hd : (List.drop 0 (List.take x.toNat l)).length <= 1099511627776 := by simp; omega
  simp (disch := omega) only [Z1.l5, Z1.l5.b, if_pos, decide_eq_true_eq, grd_dec2, e2, nameOk_ev, inside_ev, Ev.iteI, Bool.not_eq_false', Ev.s1 R, declsGo]
  by_cases h1 : nameOk y.1 = true
  ·by_cases h2 : 1 <= y.2 /\ y.2 <= 4096
   ·rw [if_pos h1, if_pos h2]
    simp (disch := omega) only [grd_dec3, declared_ev hd, Ev.iteI, wrap64, ge_iff_le]
    rw [declsOk_lp hl ys (x + 1) (t + y.2) e3 (by omega) (by omega) (by omega), Ev.s1 R, Ev.s1 R, take_succ h h0]
    have e := firstIx_any (p := fun z : tDecl => decide (z.1 = y.1)) (l := List.take x.toNat l) (x := 0) (by omega)
    rw [List.drop_zero]
    by_cases h3 : 0 <= firstIx (fun z : tDecl => decide (z.1 = y.1)) (List.take x.toNat l) 0
    ·rw [if_pos h3, <- e]; simp [h1, h2, h3]
    ·rw [if_neg h3, <- e]; simp [h1, h2, h3]
   ·rw [if_pos h1, if_neg h2]; simp [h1, h2]
  ·rw [if_neg h1]; simp [h1]
theorem declsOk_ev {l : List tDecl} (R : Nat -> Bool -> Prop) : Ev (fun n => Z1.c n l (R n)) ↔ Ev (fun n => R n (declsOk l)) := by
 refine Ev.suc.trans ?_
 simp only [Z1.c, Z1.w, Ev.iteI, decide_eq_true_eq, declsOk]
 by_cases h : l.length <= 60
 ·rw [if_neg (by omega), declsOk_lp h l 0 0 rfl (by omega) (by omega) (by omega) (fun n => R (n + 1)), Ev.s1 R]
  simp [h]
 ·rw [if_pos (by omega), Ev.s1 R]; simp [h]
theorem declsOkS_in {l : List tDecl} {t i : Int} {y : tDecl} (hl : l.length <= 60) (hi : rd l i.toNat = y) (hi0 : 0 <= i) (hi1 : i < (l.length : Int)) : ∀ (m : Nat) (k : Int), k + m = i -> 0 <= k -> ∀ (Kx : Nat -> List tDecl -> Int -> Int -> Prop) (Kr : Nat -> Bool -> Prop),
  (Ev (fun n => Z66.l10 n l t i k (Kx n) (Kr n)) ↔ if (((l.take i.toNat).drop k.toNat).any fun z => decide (z.1 = y.1)) = true then Ev (fun n => Kr n false) else Ev (fun n => Kx n l t i))
 | 0, k, h, h0, Kx, Kr => by
  refine Ev.suc.trans ?_
  simp (disch := omega) only [Z66.l10, Z66.l10.b, if_neg, decide_eq_true_eq, Ev.s3 Kx]
  rw [List.drop_eq_nil_of_le (by simp; omega)]
  simp
 | m + 1, k, h, h0, Kx, Kr => by
  refine Ev.suc.trans ?_
  have e : (l.take i.toNat).drop k.toNat = rd l k.toNat :: (l.take i.toNat).drop (k + 1).toNat := by
   have hk : k.toNat < (l.take i.toNat).length := by simp; omega
   rw [List.drop_eq_getElem_cons hk, show (k + 1).toNat = k.toNat + 1 from by omega]
   congr 1
   rw [List.getElem_take, rd, List.getD_eq_getElem?_getD, List.getElem?_eq_getElem (by omega)]; rfl
  simp (disch := omega) only [Z66.l10, Z66.l10.b, if_pos, decide_eq_true_eq, grd_dec2, hi, wrap64, Ev.iteI, beq_iff_eq, Ev.s1 Kr, e, List.any_cons, Bool.or_eq_true]
  rw [declsOkS_in hl hi hi0 hi1 m (k + 1) (by omega) (by omega), Ev.s1 Kr, Ev.s3 Kx]
  (repeat' split) <;> first | rfl | (exfalso; simp_all; done)
theorem declsOkS_lp {l : List tDecl} (hl : l.length <= 60) : ∀ (ys : List tDecl) (x t : Int), l.drop x.toNat = ys -> 0 <= x -> 0 <= t -> t <= 4096 * x -> ∀ (R : Nat -> Bool -> Prop),
  (Ev (fun n => Z66.l5 n l t x (fun y => R n (decide (y <= 20000))) (R n)) ↔ Ev (fun n => R n (declsGo (l.take x.toNat) ys t)))
 | [], x, t, h, h0, ht, ht', R => by
  have := drop_nil h h0
  refine Ev.suc.trans ?_
  simp (disch := omega) only [Z66.l5, Z66.l5.b, if_neg, decide_eq_true_eq, Ev.s1 R, declsGo]
 | y :: ys, x, t, h, h0, ht, ht', R => by
  obtain ⟨e1, e2, e3⟩ := drop_cons h h0
  refine Ev.suc.trans ?_
  simp (disch := omega) only [Z66.l5, Z66.l5.b, if_pos, decide_eq_true_eq, grd_dec2, e2, l1Name_ev, l1In_ev, Ev.iteI, Bool.not_eq_false', Bool.not_eq_true', decide_eq_false_iff_not, Ev.s1 R, declsGo, Z66.j3]
  by_cases h1 : nameOk y.1 = true
  ·by_cases h2 : 1 <= y.2 /\ y.2 <= 4096
   ·rw [if_pos h1, if_neg (by omega), declsOkS_in hl e2 h0 e1 x.toNat 0 (by omega) (by omega), Ev.s1 R]
    simp (disch := omega) only [grd_dec2, e2, wrap64]
    rw [declsOkS_lp hl ys (x + 1) (t + y.2) e3 (by omega) (by omega) (by omega) (fun n => R (n + 1)), Ev.s1 R, take_succ h h0, show (0 : Int).toNat = 0 from rfl, List.drop_zero]
    split
    ·rename_i h3; simp [h1, h2, h3]
    ·rename_i h3; simp only [Bool.not_eq_true] at h3; simp [h1, h2, h3]
   ·rw [if_pos h1, if_pos h2]; simp [h1, h2]
  ·rw [if_neg h1]; simp [h1]
theorem declsOkS_ev {l : List tDecl} (R : Nat -> Bool -> Prop) : Ev (fun n => Z66.c n l (R n)) ↔ Ev (fun n => R n (declsOk l)) := by
 refine Ev.suc.trans ?_
 simp only [Z66.c, Z66.w, Ev.iteI, decide_eq_true_eq, declsOk]
 by_cases h : l.length <= 60
 ·rw [if_neg (by omega), declsOkS_lp h l 0 0 rfl (by omega) (by omega) (by omega) (fun n => R (n + 1)), Ev.s1 R]
  simp [h]
 ·rw [if_pos (by omega), Ev.s1 R]; simp [h]
end Go.Vsi
end

section
set_option linter.unusedVariables false
set_option linter.unusedSimpArgs false
set_option synthInstance.maxSize 4096
namespace Go.Vsi
def nodeW (d : List tDecl) (x : tTNode) (kw : List Int) : Int :=
 if x.1 = 1 /\ kw.length = 0 /\ 0 <= x.2.1 /\ x.2.1 <= (d.length : Int) - 1 then (rd d x.2.1.toNat).2
 else if x.1 = 2 /\ kw.length = 0 /\ bitsOk x.2.2.2.2.1 x.2.2.2.2.2.1 = true then x.2.2.2.2.1
 else if x.1 = 3 /\ 1 < kw.length then kw.sum
 else if kw.length ≠ 1 then -1
 else if x.1 = 4 /\ 0 <= x.2.2.2.1 /\ x.2.2.2.1 <= x.2.2.1 /\ x.2.2.1 < rd kw 0 then x.2.2.1 - x.2.2.2.1 + 1
 else if (x.1 = 5 \/ x.1 = 6) /\ 0 <= x.2.2.1 /\ x.2.2.1 <= 4096 then rd kw 0 + x.2.2.1
 else if (x.1 = 7 \/ x.1 = 8) /\ 0 <= x.2.2.1 /\ x.2.2.1 <= 4096 then rd kw 0
 else if x.1 = 9 /\ 1 <= x.2.2.1 /\ x.2.2.1 <= 4096 then rd kw 0 * x.2.2.1
 else -1
theorem mulB {a b : Int} (h1 : 0 <= a) (h2 : a <= 8192) (h3 : 0 <= b) (h4 : b <= 4096) : 0 <= a * b /\ a * b <= 33554432 :=
 ⟨Int.mul_nonneg h1 h3, Int.le_trans (Int.mul_le_mul h2 h4 h3 (by decide)) (by decide)⟩
theorem width_lp {kw : List Int} (hl : kw.length <= 4096) (hk : ∀ w ∈ kw, 0 <= w /\ w <= 4096) : ∀ (ys : List Int) (x s : Int), kw.drop x.toNat = ys -> 0 <= x -> 0 <= s -> s <= 4096 * x -> ∀ (Kx : Nat -> Int -> Prop),
  (Ev (fun n => Z4.l11 n kw kw.length s x (Kx n)) ↔ Ev (fun n => Kx n (s + ys.sum)))
 | [], x, s, h, h0, hs, hs', Kx => by
  have := drop_nil h h0
  refine Ev.suc.trans ?_
  simp (disch := omega) only [Z4.l11, Z4.l11.b, if_neg, decide_eq_true_eq, Ev.s1 Kx, List.sum_nil, Int.add_zero]
 | y :: ys, x, s, h, h0, hs, hs', Kx => by
  obtain ⟨e1, e2, e3⟩ := drop_cons h h0
  have hy : y ∈ kw := by
   have : y ∈ kw.drop x.toNat := by rw [h]; exact List.mem_cons_self
   exact List.mem_of_mem_drop this
  have hy' := hk y hy
  refine Ev.suc.trans ?_
  simp (disch := omega) only [Z4.l11, Z4.l11.b, if_pos, decide_eq_true_eq, grd_dec2, e2, wrap64]
  rw [width_lp hl hk ys (x + 1) (s + y) e3 (by omega) (by omega) (by omega), Ev.s1 Kx]
  refine ev_arg ?_
  rw [List.sum_cons]; omega
theorem width_q21 {x : tTNode} {f : Int} {b : Bool} (K : Nat -> Int -> Prop) (S : Nat -> Prop) :
  Ev (fun n => Z4.q21 n x f b (K n) (S n)) ↔ if b = true then Ev (fun n => K n (IntKind.wrap .i64 (f + x.2.2.1))) else
   if (x.1 = 7 \/ x.1 = 8) /\ 0 <= x.2.2.1 /\ x.2.2.1 <= 4096 then Ev (fun n => K n f) else if x.1 = 9 /\ 1 <= x.2.2.1 /\ x.2.2.1 <= 4096 then Ev (fun n => K n (IntKind.wrap .i64 (f * x.2.2.1))) else Ev S := by
 refine Ev.suc.trans ?_
 simp only [Z4.q21, Z4.q21.b, Z4.j0, inside_ev, Ev.iteI, decide_eq_true_eq, decide_eq_false_iff_not, Ev.s1 K, Ev.s0 S, Bool.false_eq_true, if_false]
 (repeat' split) <;> first | rfl | (exfalso; omega)
theorem width_q9 {x : tTNode} {kw : List Int} {b : Bool} (hl : kw.length <= 4096) (hk : ∀ w ∈ kw, 0 <= w /\ w <= 4096) (hb : b = true ↔ x.1 = 3 /\ 1 < kw.length) (K : Nat -> Int -> Prop) (S : Nat -> Prop) :
  Ev (fun n => Z4.q9 n x kw (rd kw 0) b (K n) (S n)) ↔ if x.1 = 3 /\ 1 < kw.length then Ev (fun n => K n kw.sum) else if kw.length ≠ 1 then Ev (fun n => K n (-1)) else
   if x.1 = 4 /\ 0 <= x.2.2.2.1 /\ x.2.2.2.1 <= x.2.2.1 /\ x.2.2.1 < rd kw 0 then Ev (fun n => K n (x.2.2.1 - x.2.2.2.1 + 1))
   else if (x.1 = 5 \/ x.1 = 6) /\ 0 <= x.2.2.1 /\ x.2.2.1 <= 4096 then Ev (fun n => K n (rd kw 0 + x.2.2.1))
   else if (x.1 = 7 \/ x.1 = 8) /\ 0 <= x.2.2.1 /\ x.2.2.1 <= 4096 then Ev (fun n => K n (rd kw 0))
   else if x.1 = 9 /\ 1 <= x.2.2.1 /\ x.2.2.1 <= 4096 then Ev (fun n => K n (rd kw 0 * x.2.2.1)) else Ev S := by
 refine Ev.suc.trans ?_
 simp only [Z4.q9, Z4.q9.b, Z4.j1, Ev.iteI, hb]
 by_cases h3 : x.1 = 3 /\ 1 < kw.length
 ·rw [if_pos h3, if_pos h3, width_lp hl hk kw 0 0 rfl (by omega) (by omega) (by omega), Ev.s1 K, Int.zero_add]
 rw [if_neg h3, if_neg h3]
 by_cases h1 : kw.length = 1
 ·have hf : 0 <= rd kw 0 /\ rd kw 0 <= 4096 := by
   match kw, h1, hk with
   | [w], _, hk => exact hk w List.mem_cons_self
  have h1' : (kw.length : Int) = 1 := by omega
  rw [if_neg (c := kw.length ≠ 1) (by omega)]
  simp only [h1', decide_true, Bool.not_true, Bool.false_eq_true, if_false]
  simp only [width_q21, inside_ev, Ev.iteI, decide_eq_true_eq, decide_eq_false_iff_not, Ev.s1 K, Ev.s0 S, Bool.false_eq_true, if_false, ge_iff_le]
  by_cases h4 : x.1 = 4
  ·simp only [h4, true_and, if_true, show ¬ (4 : Int) = 5 from by decide, show ¬ (4 : Int) = 6 from by decide, show ¬ (4 : Int) = 7 from by decide, show ¬ (4 : Int) = 8 from by decide, show ¬ (4 : Int) = 9 from by decide, or_self, false_and, if_false, not_false_eq_true]
   by_cases g1 : 0 <= x.2.2.2.1
   ·by_cases g2 : x.2.2.2.1 <= x.2.2.1
    ·by_cases g3 : x.2.2.1 < rd kw 0
     ·simp (disch := omega) only [g1, g2, g3, and_self, if_true, wrap64, decide_true]
     ·simp only [g1, g2, g3, and_false, if_true, if_false, decide_false, Bool.false_eq_true]
    ·simp only [g1, g2, false_and, and_false, if_true, if_false]
   ·simp only [g1, false_and, if_false]
  ·simp only [h4, false_and, if_false]
   by_cases h5 : (x.1 = 5 \/ x.1 = 6) /\ 0 <= x.2.2.1 /\ x.2.2.1 <= 4096
   ·have e : IntKind.wrap .i64 (rd kw 0 + x.2.2.1) = rd kw 0 + x.2.2.1 := wrap64 (by omega) (by omega)
    rw [if_pos h5, e]
    rcases h5 with ⟨h5 | h5, h6⟩
    ·simp only [h5, h6, not_true, if_false, if_true, and_self]
    ·simp only [h5, h6, show ¬ (6 : Int) = 5 from by decide, not_false_eq_true, if_true, and_self]
   ·rw [if_neg h5]
    have e : 1 <= x.2.2.1 /\ x.2.2.1 <= 4096 -> IntKind.wrap .i64 (rd kw 0 * x.2.2.1) = rd kw 0 * x.2.2.1 := fun h => by
     have := mulB hf.1 (by omega) (show 0 <= x.2.2.1 by omega) h.2
     exact wrap64 (by omega) (by omega)
    (repeat' split) <;> first | rfl | (exfalso; omega) | (exfalso; simp_all; done) | (rw [e (by omega)])
 ·have h1' : ¬ (kw.length : Int) = 1 := by omega
  simp only [h1, h1', ne_eq, not_false_eq_true, if_true, decide_false, Bool.not_false, Ev.s1 K]
theorem width_q5 {x : tTNode} {d : List tDecl} {kw : List Int} {b : Bool} (hl : kw.length <= 4096) (hk : ∀ w ∈ kw, 0 <= w /\ w <= 4096) (hb : b = true ↔ x.1 = 1 /\ kw.length = 0 /\ 0 <= x.2.1 /\ x.2.1 <= (d.length : Int) - 1) (R : Nat -> Int -> Prop) :
  Ev (fun n => Z4.q5 n x d kw (rd kw 0) b (R n) (R n (-1))) ↔ Ev (fun n => R n (nodeW d x kw)) := by
 refine Ev.suc.trans ?_
 simp only [Z4.q5, Z4.q5.b, Z4.j2, Ev.iteI, nodeW]
 by_cases h1 : x.1 = 1 /\ kw.length = 0 /\ 0 <= x.2.1 /\ x.2.1 <= (d.length : Int) - 1
 ·simp (disch := omega) only [hb.2 h1, if_true, grd_dec2, Ev.s1 R]
  rw [if_pos h1]
 have hb' : ¬ b = true := fun h => h1 (hb.1 h)
 rw [if_neg hb', if_neg h1]
 have q9 : ∀ (c : Bool), (c = true ↔ x.1 = 3 /\ 1 < kw.length) -> ((Ev fun n => Z4.q9 n x kw (rd kw 0) c (R (n + 1)) (R (n + 1) (-1))) ↔ Ev (fun n => R n (if x.1 = 3 /\ 1 < kw.length then kw.sum
   else if kw.length ≠ 1 then -1
   else if x.1 = 4 /\ 0 <= x.2.2.2.1 /\ x.2.2.2.1 <= x.2.2.1 /\ x.2.2.1 < rd kw 0 then x.2.2.1 - x.2.2.2.1 + 1
   else if (x.1 = 5 \/ x.1 = 6) /\ 0 <= x.2.2.1 /\ x.2.2.1 <= 4096 then rd kw 0 + x.2.2.1
   else if (x.1 = 7 \/ x.1 = 8) /\ 0 <= x.2.2.1 /\ x.2.2.1 <= 4096 then rd kw 0
   else if x.1 = 9 /\ 1 <= x.2.2.1 /\ x.2.2.1 <= 4096 then rd kw 0 * x.2.2.1
   else -1))) := fun c hc => by
  rw [width_q9 hl hk hc (fun n => R (n + 1)) (fun n => R (n + 1) (-1))]
  simp only [Ev.s1 R]
  (repeat' split) <;> first | rfl | (exfalso; omega)
 simp only [decide_eq_true_eq, Bool.false_eq_true, if_false, implOk_ev, Ev.iteI, Ev.s1 R]
 have f3 : ¬ (x.1 = 3 /\ 1 < kw.length) -> (false = true ↔ x.1 = 3 /\ 1 < kw.length) := fun h => iff_of_false Bool.false_ne_true h
 by_cases h2 : x.1 = 2
 ·have h3 : ¬ x.1 = 3 := by omega
  have h3' : ¬ (x.1 = 3 /\ 1 < kw.length) := by omega
  rw [if_pos h2]
  by_cases h4 : kw.length = 0
  ·have h4' : (kw.length : Int) = 0 := by omega
   rw [if_pos h4']
   by_cases h5 : bitsOk x.2.2.2.2.1 x.2.2.2.2.2.1 = true
   ·rw [if_pos h5, if_pos ⟨h2, h4, h5⟩]
   ·rw [if_neg h5, if_neg h3, q9 false (f3 h3'), if_neg (c := x.1 = 2 /\ kw.length = 0 /\ bitsOk x.2.2.2.2.1 x.2.2.2.2.2.1 = true) (fun h => h5 h.2.2)]
  ·have h4' : ¬ (kw.length : Int) = 0 := by omega
   rw [if_neg h4', if_neg h3, q9 false (f3 h3'), if_neg (c := x.1 = 2 /\ kw.length = 0 /\ bitsOk x.2.2.2.2.1 x.2.2.2.2.2.1 = true) (fun h => h4 h.2.1)]
 ·rw [if_neg h2, if_neg (c := x.1 = 2 /\ kw.length = 0 /\ bitsOk x.2.2.2.2.1 x.2.2.2.2.2.1 = true) (fun h => h2 h.1)]
  by_cases h3 : x.1 = 3
  ·rw [if_pos h3, q9 _ (by rw [decide_eq_true_eq]; omega)]
  ·rw [if_neg h3, q9 false (f3 (fun h => h3 h.1))]
theorem width_ev {x : tTNode} {d : List tDecl} {kw : List Int} (hd : d.length <= 1099511627776) (hl : kw.length <= 4096) (hk : ∀ w ∈ kw, 0 <= w /\ w <= 4096) (R : Nat -> Int -> Prop) :
  Ev (fun n => Z4.c n x d kw (R n)) ↔ Ev (fun n => R n (nodeW d x kw)) := by
 refine Ev.suc.trans ?_
 have key : ∀ (f : Int), f = rd kw 0 -> ((Ev fun n => Z4.j3 (R (n + 1)) x d kw (Z4.q5 n) n f) ↔ Ev (fun n => R n (nodeW d x kw))) := by
  rintro f rfl
  simp (disch := omega) only [Z4.j3, Ev.iteI, decide_eq_true_eq, inside_ev, wrap64]
  by_cases h1 : x.1 = 1
  ·by_cases h2 : (kw.length : Int) = 0
   ·rw [if_pos h1, if_pos h2, width_q5 hl hk (by rw [decide_eq_true_eq]; omega) (fun n => R (n + 1)), Ev.s1 R]
   ·rw [if_pos h1, if_neg h2, width_q5 hl hk (iff_of_false Bool.false_ne_true (by omega)) (fun n => R (n + 1)), Ev.s1 R]
  ·rw [if_neg h1, width_q5 hl hk (iff_of_false Bool.false_ne_true (by omega)) (fun n => R (n + 1)), Ev.s1 R]
 simp only [Z4.c, Z4.w, Ev.iteI, decide_eq_true_eq]
 by_cases h : (kw.length : Int) > 0
 ·rw [if_pos h]
  simp (disch := omega) only [grd_dec]
  exact key _ rfl
 ·rw [if_neg h]
  refine key 0 ?_
  match kw, h with
  | [], _ => rfl
  | _ :: _, h => simp at h
end Go.Vsi
end

section
set_option linter.unusedVariables false
set_option linter.unusedSimpArgs false
set_option synthInstance.maxSize 4096
namespace Go.Vsi
def plainB (x : tTNode) : Bool := decide (((4 <= x.1 /\ x.1 <= 9) \/ x.2.2.1 = 0) /\ (x.1 = 4 \/ x.2.2.2.1 = 0) /\ (x.1 = 1 \/ x.2.1 = 0) /\ (x.1 = 2 \/ (x.2.2.2.2.1 = 0 /\ x.2.2.2.2.2.1.length = 0)))
theorem plain_q3 {x : tTNode} {b : Bool} (R : Nat -> Bool -> Prop) (S : Nat -> tTNode -> Prop) :
  Ev (fun n => Z3.q3 n x b (R n) (S n)) ↔ if b = true then Ev (fun n => R n false) else Ev (fun n => S n x) := by
 refine Ev.suc.trans ?_
 simp only [Z3.q3, Z3.q3.b, Ev.iteI, Ev.s1 R, Ev.s1 S]
theorem plain_q2 {x : tTNode} {b : Bool} (hb : b = true ↔ (4 <= x.1 /\ x.1 <= 9)) (R : Nat -> Bool -> Prop) :
  Ev (fun n => Z3.q2 n x b (R n)) ↔ Ev (fun n => R n (plainB x)) := by
 refine Ev.suc.trans ?_
 have hb' : b = false ↔ ¬ (4 <= x.1 /\ x.1 <= 9) := by rw [<- hb]; simp
 simp only [Z3.q2, Z3.q2.b, Z3.j0, plain_q3, Ev.iteI, Ev.s1 R, Bool.not_eq_true', Bool.not_eq_false', decide_eq_true_eq, decide_eq_false_iff_not, Bool.false_eq_true, if_false, if_true, hb']
 (repeat' split) <;> first
  | (refine ev_arg ?_; symm; rw [plainB, decide_eq_false_iff_not]; omega)
  | (refine ev_arg ?_; symm; rw [plainB, decide_eq_true_eq]; omega)
  | (refine ev_arg ?_; rw [plainB, decide_eq_decide]; omega)
theorem plain_ev {x : tTNode} (R : Nat -> Bool -> Prop) : Ev (fun n => Z3.c n x (R n)) ↔ Ev (fun n => R n (plainB x)) := by
 refine Ev.suc.trans ?_
 simp only [Z3.c, Z3.w, Ev.iteI, decide_eq_true_eq, ge_iff_le]
 split
 ·rename_i h; rw [plain_q2 (by rw [decide_eq_true_eq]; omega) (fun n => R (n + 1)), Ev.s1 R]
 ·rename_i h; rw [plain_q2 (by simp; omega) (fun n => R (n + 1)), Ev.s1 R]
def kidsIn (i : Int) (ks : List Int) : Bool := ks.all fun k => decide (0 <= k /\ k <= i - 1)
theorem kidsIn_cons {i y : Int} {ys : List Int} : kidsIn i (y :: ys) = true ↔ (0 <= y /\ y <= i - 1) /\ kidsIn i ys = true := by
 rw [kidsIn, kidsIn, List.all_cons, Bool.and_eq_true, decide_eq_true_eq]
def kindB (d : List tDecl) (x : tTNode) : Bool := decide ((x.1 = 1 /\ x.2.2.2.2.2.2.length = 0 /\ 0 <= x.2.1 /\ x.2.1 <= (d.length : Int) - 1) \/ (x.1 = 2 /\ x.2.2.2.2.2.2.length = 0 /\ bitsOk x.2.2.2.2.1 x.2.2.2.2.2.1 = true) \/ (x.1 = 3 /\ 2 <= x.2.2.2.2.2.2.length) \/ (4 <= x.1 /\ x.1 <= 9 /\ x.2.2.2.2.2.2.length = 1))
theorem noBits_ev {a : Int} {l : List Int} (R : Nat -> Bool -> Prop) : Ev (fun n => Z79.c n a l (R n)) ↔ Ev (fun n => R n (decide (a = 0 /\ l.length = 0))) := by
 refine Ev.suc.trans ?_
 simp only [Z79.c, Z79.w, Ev.iteI, decide_eq_true_eq, Ev.s1 R]
 split
 ·refine ev_arg ?_; rw [decide_eq_decide]; omega
 ·refine ev_arg ?_; symm; rw [decide_eq_false_iff_not]; omega
theorem l3One_ev {a : Int} (R : Nat -> Bool -> Prop) : Ev (fun n => Z80.c n a (R n)) ↔ Ev (fun n => R n (decide (4 <= a /\ a <= 9))) := by
 refine Ev.suc.trans ?_
 simp only [Z80.c, Z80.w, l1In_ev, Ev.s1 R]
theorem form_lp {d : List tDecl} {i a b c e f : Int} {w ks : List Int} (hl : ks.length <= 1099511627776) (hi0 : 0 <= i) (hi : i <= 1048576) : ∀ (ys : List Int) (x : Int), ks.drop x.toNat = ys -> 0 <= x ->
  ∀ (Kx : Nat -> List tDecl -> Int -> Int -> Int -> Int -> Int -> List Int -> List Int -> Prop) (Kr : Nat -> Bool -> Prop),
  (Ev (fun n => Z78.l2 n d i a b c e f w ks x (Kx n) (Kr n)) ↔ if kidsIn i ys = true then Ev (fun n => Kx n d a b c e f w ks) else Ev (fun n => Kr n false))
 | [], x, h, h0, Kx, Kr => by
  have := drop_nil h h0
  refine Ev.suc.trans ?_
  simp (disch := omega) only [Z78.l2, Z78.l2.b, if_neg, decide_eq_true_eq, Ev.s8 Kx, kidsIn, List.all_nil, if_true]
 | y :: ys, x, h, h0, Kx, Kr => by
  obtain ⟨e1, e2, e3⟩ := drop_cons h h0
  refine Ev.suc.trans ?_
  simp (disch := omega) only [Z78.l2, Z78.l2.b, if_pos, decide_eq_true_eq, decide_eq_false_iff_not, Bool.not_eq_true', grd_dec2, e2, wrap64, l1In_ev, Ev.iteI, Ev.s1 Kr]
  rw [form_lp hl hi0 hi ys (x + 1) e3 (by omega), Ev.s1 Kr, Ev.s8 Kx]
  simp only [kidsIn_cons]
  by_cases h1 : 0 <= y /\ y <= i - 1
  ·rw [if_neg (fun h => h h1)]
   simp only [h1, true_and, and_self]
  ·rw [if_pos h1, if_neg (fun h => h1 h.1)]
theorem form_q7 {d : List tDecl} {g : Bool} {a b c e f : Int} {w ks : List Int} (R : Nat -> Bool -> Prop) (S : Nat -> List tDecl -> Int -> Int -> Int -> Int -> Int -> List Int -> List Int -> Prop) :
  Ev (fun n => Z78.q7 n d g a b c e f w ks (R n) (S n)) ↔ if g = true then Ev (fun n => R n false) else Ev (fun n => S n d a b c e f w ks) := by
 refine Ev.suc.trans ?_
 simp only [Z78.q7, Z78.q7.b, Ev.iteI, Ev.s1 R, Ev.s8 S]
theorem form_q8 {d : List tDecl} {a b c e f : Int} {w ks : List Int} (hd : d.length <= 1099511627776) (hw : Wd w) (R : Nat -> Bool -> Prop) :
  Ev (fun n => Z78.q8 n d a b c e f w ks (R n)) ↔ Ev (fun n => R n (kindB d (a, b, c, e, f, w, ks))) := by
 refine Ev.suc.trans ?_
 simp (disch := first | assumption | omega) only [Z78.q8, Z78.q8.b, Ev.iteI, decide_eq_true_eq, l1In_ev, l3One_ev, specOk_ev, wrap64, Ev.s1 R]
 have key : ∀ (b' : Bool), (b' = true ↔ kindB d (a, b, c, e, f, w, ks) = true) -> ((Ev fun n => R n b') ↔ Ev fun n => R n (kindB d (a, b, c, e, f, w, ks))) := fun b' h => by
  rw [Bool.eq_iff_iff.2 h]
 simp only [kindB, decide_eq_true_eq] at key
 (repeat' split) <;> refine key _ ?_ <;> first
  | (simp only [decide_eq_true_eq, Bool.false_eq_true, false_iff]; omega)
  | (simp only [decide_eq_true_eq, Bool.false_eq_true, false_iff]; constructor <;> intro h <;> simp_all <;> omega)
  | (simp_all; done) | (simp_all; omega)
theorem form_ev {d : List tDecl} {i a b c e f : Int} {w ks : List Int} (hd : d.length <= 1099511627776) (hw : Wd w) (hl : ks.length <= 1099511627776) (hi0 : 0 <= i) (hi : i <= 1048576) (R : Nat -> Bool -> Prop) :
  Ev (fun n => Z78.c n d a b c e f w ks i (R n)) ↔ Ev (fun n => R n (kidsIn i ks && plainB (a, b, c, e, f, w, ks) && kindB d (a, b, c, e, f, w, ks))) := by
 refine Ev.suc.trans ?_
 simp only [Z78.c, Z78.w]
 rw [form_lp hl hi0 hi ks 0 rfl (by omega)]
 by_cases hk : kidsIn i ks = true
 ·rw [if_pos hk, hk, Bool.true_and]
  simp only [Ev.iteI, Bool.not_eq_true', Bool.not_eq_false', decide_eq_true_eq, decide_eq_false_iff_not, noBits_ev, l3One_ev, form_q7, form_q8 hd hw, Ev.s1 R, Bool.false_eq_true, if_false, if_true]
  have T : plainB (a, b, c, e, f, w, ks) = true -> ((Ev fun n => R n (kindB d (a, b, c, e, f, w, ks))) ↔ Ev fun n => R n (plainB (a, b, c, e, f, w, ks) && kindB d (a, b, c, e, f, w, ks))) := fun h => by rw [h, Bool.true_and]
  have F : plainB (a, b, c, e, f, w, ks) = false -> ((Ev fun n => R n false) ↔ Ev fun n => R n (plainB (a, b, c, e, f, w, ks) && kindB d (a, b, c, e, f, w, ks))) := fun h => by rw [h, Bool.false_and]
  simp only [plainB, decide_eq_true_eq, decide_eq_false_iff_not] at T F
  (repeat' split) <;> first
   | (refine T ?_; omega)
   | (refine F ?_; omega)
 ·rw [if_neg hk, show kidsIn i ks = false from by simpa using hk, Bool.false_and, Bool.false_and, Ev.s1 R]
end Go.Vsi
end

section
set_option linter.unusedVariables false
set_option linter.unusedSimpArgs false
set_option synthInstance.maxSize 4096
namespace Go.Vsi
def WOk (l : List Int) : Prop := ∀ w ∈ l, 1 <= w /\ w <= 4096
theorem WOk.cons {y : Int} {r : List Int} (h : WOk (y :: r)) : (1 <= y /\ y <= 4096) /\ WOk r := ⟨h y List.mem_cons_self, fun w hw => h w (List.mem_cons_of_mem _ hw)⟩
def capSum (s : Int) : List Int -> Int
 | [] => s
 | y :: r => capSum (if s + y < 8192 then s + y else 8192) r
theorem sum_ge : ∀ {l : List Int}, WOk l -> (l.length : Int) <= l.sum
 | [], _ => by simp
 | y :: r, h => by
  have := sum_ge h.cons.2
  have := h.cons.1
  rw [List.sum_cons, List.length_cons]; omega
theorem capSum_big : ∀ {r : List Int}, WOk r -> capSum 8192 r = 8192
 | [], _ => rfl
 | y :: r, h => by
  have := h.cons.1
  rw [capSum, if_neg (by omega), capSum_big h.cons.2]
theorem capSum_eq : ∀ {l : List Int} {s : Int}, 0 <= s -> s <= 8192 -> WOk l -> capSum s l = if s + l.sum < 8192 then s + l.sum else 8192
 | [], s, h0, h1, hw => by
  rw [capSum, List.sum_nil]; split <;> omega
 | y :: r, s, h0, h1, hw => by
  have hy := hw.cons.1
  have hr := hw.cons.2
  have hs := sum_ge hr
  rw [capSum, List.sum_cons]
  by_cases h : s + y < 8192
  ·rw [if_pos h, capSum_eq (by omega) (by omega) hr]
   simp only [Int.add_assoc]
  ·rw [if_neg h, capSum_big hr, if_neg (by omega)]
def acc (w : Int) : Option Int := if 1 <= w /\ w <= 4096 then some w else none
def specW (d : List tDecl) (x : tTNode) (s : Int) : Int :=
 if x.1 = 1 then (rd d x.2.1.toNat).2
 else if x.1 = 2 then x.2.2.2.2.1
 else if x.1 = 4 then (if x.2.2.2.1 < 0 \/ x.2.2.1 < x.2.2.2.1 \/ x.2.2.1 >= s then -1 else x.2.2.1 - x.2.2.2.1 + 1)
 else if x.1 = 5 \/ x.1 = 6 then (if 0 <= x.2.2.1 /\ x.2.2.1 <= 4096 then s + x.2.2.1 else -1)
 else if x.1 = 7 \/ x.1 = 8 then (if 0 <= x.2.2.1 /\ x.2.2.1 <= 4096 then s else -1)
 else if x.1 = 9 then (if 1 <= x.2.2.1 /\ x.2.2.1 <= 4096 then s * x.2.2.1 else -1)
 else s
theorem node_one {d : List tDecl} {x : tTNode} {w : Int} (h1 : 4 <= x.1) (h2 : x.1 <= 9) : nodeW d x [w] = specW d x w := by
 have e : rd [w] 0 = w := rfl
 have e1 : [w].length = 1 := rfl
 rw [nodeW, e, e1, if_neg (by omega), if_neg (by omega), if_neg (by omega), if_neg (by omega), specW, if_neg (c := x.1 = 1) (by omega), if_neg (c := x.1 = 2) (by omega)]
 have h : x.1 = 4 \/ x.1 = 5 \/ x.1 = 6 \/ x.1 = 7 \/ x.1 = 8 \/ x.1 = 9 := by omega
 rcases h with h | h | h | h | h | h
 ·rw [if_pos (c := x.1 = 4) h]
  by_cases c : 0 <= x.2.2.2.1 /\ x.2.2.2.1 <= x.2.2.1 /\ x.2.2.1 < w
  ·rw [if_pos ⟨h, c⟩, if_neg (by omega)]
  ·rw [if_neg (fun hh => c hh.2), if_neg (by omega), if_neg (by omega), if_neg (by omega), if_pos (by omega)]
 all_goals
  rw [if_neg (c := x.1 = 4) (by omega), if_neg (by omega)]
 ·rw [if_pos (c := x.1 = 5 \/ x.1 = 6) (by omega)]
  by_cases c : 0 <= x.2.2.1 /\ x.2.2.1 <= 4096
  ·rw [if_pos ⟨Or.inl h, c⟩, if_pos c]
  ·rw [if_neg (fun hh => c hh.2), if_neg (by omega), if_neg (by omega), if_neg c]
 ·rw [if_pos (c := x.1 = 5 \/ x.1 = 6) (by omega)]
  by_cases c : 0 <= x.2.2.1 /\ x.2.2.1 <= 4096
  ·rw [if_pos ⟨Or.inr h, c⟩, if_pos c]
  ·rw [if_neg (fun hh => c hh.2), if_neg (by omega), if_neg (by omega), if_neg c]
 ·rw [if_neg (c := x.1 = 5 \/ x.1 = 6) (by omega), if_neg (by omega), if_pos (c := x.1 = 7 \/ x.1 = 8) (by omega)]
  by_cases c : 0 <= x.2.2.1 /\ x.2.2.1 <= 4096
  ·rw [if_pos ⟨Or.inl h, c⟩, if_pos c]
  ·rw [if_neg (fun hh => c hh.2), if_neg (by omega), if_neg c]
 ·rw [if_neg (c := x.1 = 5 \/ x.1 = 6) (by omega), if_neg (by omega), if_pos (c := x.1 = 7 \/ x.1 = 8) (by omega)]
  by_cases c : 0 <= x.2.2.1 /\ x.2.2.1 <= 4096
  ·rw [if_pos ⟨Or.inr h, c⟩, if_pos c]
  ·rw [if_neg (fun hh => c hh.2), if_neg (by omega), if_neg c]
 ·rw [if_neg (c := x.1 = 5 \/ x.1 = 6) (by omega), if_neg (by omega), if_neg (by omega), if_neg (c := x.1 = 7 \/ x.1 = 8) (by omega), if_pos (c := x.1 = 9) h]
  by_cases c : 1 <= x.2.2.1 /\ x.2.2.1 <= 4096
  ·rw [if_pos ⟨h, c⟩, if_pos c]
  ·rw [if_neg (fun hh => c hh.2), if_neg c]
theorem step_eq {d : List tDecl} {x : tTNode} {kw : List Int} (hw : WOk kw) (hl : kw.length = x.2.2.2.2.2.2.length) :
  (if x.2.2.2.2.2.2.length <= 4096 then acc (nodeW d x kw) else none) = if kindB d x = true then acc (specW d x (capSum 0 kw)) else none := by
 rw [<- hl]
 rw [capSum_eq (by omega) (by omega) hw, Int.zero_add]
 have hs := sum_ge hw
 by_cases hk : kindB d x = true
 ·rw [if_pos hk]
  rw [kindB, decide_eq_true_eq, <- hl] at hk
  rcases hk with ⟨h1, h2, h3, h4⟩ | ⟨h1, h2, h3⟩ | ⟨h1, h2⟩ | ⟨h1, h2, h3⟩
  ·rw [if_pos (by omega), nodeW, if_pos ⟨h1, h2, h3, h4⟩, specW, if_pos h1]
  ·rw [if_pos (by omega), nodeW, if_neg (by omega), if_pos ⟨h1, h2, h3⟩, specW, if_neg (by omega), if_pos h1]
  ·have hn : nodeW d x kw = kw.sum := by rw [nodeW, if_neg (by omega), if_neg (by omega), if_pos (by omega)]
   have hq : ∀ s, specW d x s = s := fun s => by rw [specW, if_neg (by omega), if_neg (by omega), if_neg (by omega), if_neg (by omega), if_neg (by omega), if_neg (by omega)]
   rw [hn, hq]
   unfold acc
   (repeat' split) <;> first | rfl | (exfalso; omega)
  ·rw [if_pos (by omega)]
   match kw, h3, hw with
   | [w], _, hw =>
    have h := hw w List.mem_cons_self
    have hs : (if [w].sum < 8192 then [w].sum else 8192) = w := by
     simp only [List.sum_cons, List.sum_nil, Int.add_zero]; rw [if_pos (by omega)]
    rw [hs]
    have hn := node_one (d := d) (x := x) (w := w) h1 h2
    rw [hn]
 ·rw [if_neg hk]
  rw [kindB, decide_eq_true_eq, <- hl] at hk
  have : nodeW d x kw = -1 := by
   rw [nodeW, if_neg (by omega), if_neg (by rintro ⟨h1, h2, h3⟩; exact hk (Or.inr (Or.inl ⟨h1, h2, h3⟩))), if_neg (by omega)]
   by_cases h1 : kw.length ≠ 1
   ·rw [if_pos h1]
   ·rw [if_neg h1, if_neg (by omega), if_neg (by omega), if_neg (by omega), if_neg (by omega)]
  rw [this]
  split <;> rfl
def stepW (d : List tDecl) (x : tTNode) (wide : List Int) : Option Int :=
 if kidsIn wide.length x.2.2.2.2.2.2 = true /\ plainB x = true /\ kindB d x = true then acc (specW d x (capSum 0 (x.2.2.2.2.2.2.map fun k => rd wide k.toNat))) else none
def setAll (u : List Bool) : List Int -> List Bool
 | [] => u
 | k :: r => setAll (u.set k.toNat true) r
theorem setAll_len : ∀ {ks : List Int} {u : List Bool}, (setAll u ks).length = u.length
 | [], u => rfl
 | k :: r, u => by rw [setAll, setAll_len, List.length_set]
def widthsGo (d : List tDecl) : List tTNode -> List Int -> List Bool -> Option (List Int × List Bool)
 | [], wide, used => some (wide, used)
 | x :: r, wide, used => match stepW d x wide with
  | some w => widthsGo d r (wide ++ [w]) (setAll used x.2.2.2.2.2.2)
  | none => none
theorem rd_mem {l : List Int} {k : Int} (h0 : 0 <= k) (h1 : k < (l.length : Int)) : rd l k.toNat ∈ l := by
 rw [rd, List.getD_eq_getElem?_getD, List.getElem?_eq_getElem (by omega)]
 exact List.getElem_mem _
theorem rd_app {α : Type} [Inhabited α] {a b : List α} {k : Nat} (h : k < a.length) : rd (a ++ b) k = rd a k := by
 rw [rd, rd, List.getD_eq_getElem?_getD, List.getD_eq_getElem?_getD, List.getElem?_append_left h]
theorem kids_wok {wide ks : List Int} (hw : WOk wide) (hk : kidsIn wide.length ks = true) : WOk (ks.map fun k => rd wide k.toNat) := by
 intro w hw'
 obtain ⟨k, hk', rfl⟩ := List.mem_map.1 hw'
 rw [kidsIn, List.all_eq_true] at hk
 have := hk k hk'
 rw [decide_eq_true_eq] at this
 exact hw _ (rd_mem this.1 (by omega))
theorem acc_some {w v : Int} (h : acc w = some v) : v = w /\ 1 <= w /\ w <= 4096 := by
 unfold acc at h
 split at h
 ·rename_i hh; cases h; exact ⟨rfl, hh⟩
 ·cases h
theorem stepW_ok {d : List tDecl} {x : tTNode} {wide : List Int} {w : Int} (h : stepW d x wide = some w) : 1 <= w /\ w <= 4096 := by
 unfold stepW at h
 split at h
 ·obtain ⟨rfl, h1⟩ := acc_some h; exact h1
 ·cases h
theorem WOk.app {wide : List Int} {w : Int} (h : WOk wide) (hw : 1 <= w /\ w <= 4096) : WOk (wide ++ [w]) := by
 intro v hv
 rcases List.mem_append.1 hv with hv | hv
 ·exact h v hv
 ·rw [List.mem_singleton] at hv; subst hv; exact hw
theorem widthsGo_ok {d : List tDecl} : ∀ {ys : List tTNode} {wide : List Int} {used : List Bool} {r : List Int × List Bool}, WOk wide -> widthsGo d ys wide used = some r -> WOk r.1 /\ r.1.length = wide.length + ys.length /\ r.2.length = used.length
 | [], wide, used, r, hw, h => by
  rw [widthsGo] at h; cases h; exact ⟨hw, rfl, rfl⟩
 | x :: ys, wide, used, r, hw, h => by
  rw [widthsGo] at h
  cases hs : stepW d x wide with
  | none => rw [hs] at h; cases h
  | some w =>
   rw [hs] at h
   obtain ⟨h1, h2, h3⟩ := widthsGo_ok (hw.app (stepW_ok hs)) h
   refine ⟨h1, ?_, ?_⟩
   ·rw [h2]; simp; omega
   ·rw [h3, setAll_len]
theorem kids_lp {d : List tDecl} {m i a b : Int} {x : tTNode} {ks out : List Int} {nodes : List tTNode} (hl : ks.length <= 4096) (hi0 : 0 <= i) (hi : i <= (out.length : Int)) (hi' : i <= 1048576) : ∀ (ys : List Int) (j : Int) (used : List Bool) (kw : List Int), ks.drop j.toNat = ys -> 0 <= j -> i <= (used.length : Int) -> kw.length = ks.length ->
  ∀ (Kx : Nat -> List tDecl -> Int -> Int -> tTNode -> Int -> Int -> List Int -> List Bool -> List Int -> List tTNode -> Prop) (Kr : Nat -> Bool -> List Int -> Prop),
  (Ev (fun n => Z17.l13 n d m i x a b ks ks.length out nodes j used kw (Kx n) (Kr n)) ↔
   if kidsIn i ys = true then Ev (fun n => Kx n d m i x a b out (setAll used ys) (kw.take j.toNat ++ ys.map fun k => rd out k.toNat) nodes) else Ev (fun n => Kr n false []))
 | [], j, used, kw, h, h0, hu, hkw, Kx, Kr => by
  have := drop_nil h h0
  refine Ev.suc.trans ?_
  simp (disch := omega) only [Z17.l13, Z17.l13.b, if_neg, decide_eq_true_eq, Ev.s10 Kx, kidsIn, List.all_nil, if_true, setAll, List.map_nil, List.append_nil]
  rw [List.take_of_length_le (by omega)]
 | y :: ys, j, used, kw, h, h0, hu, hkw, Kx, Kr => by
  obtain ⟨e1, e2, e3⟩ := drop_cons h h0
  refine Ev.suc.trans ?_
  simp (disch := omega) only [Z17.l13, Z17.l13.b, if_pos, decide_eq_true_eq, decide_eq_false_iff_not, Bool.not_eq_true', grd_dec2, e2, wrap64, inside_ev, Ev.iteI, Ev.s2 Kr]
  by_cases h1 : 0 <= y /\ y <= i - 1
  ·rw [if_neg (fun h => h h1)]
   rw [kids_lp hl hi0 hi hi' ys (j + 1) _ _ e3 (by omega) (by simpa using hu) (by simpa using hkw), Ev.s10 Kx, Ev.s2 Kr, take_set (by omega) (by omega)]
   simp only [kidsIn_cons, h1, and_self, true_and, setAll, List.map_cons, List.append_assoc, List.singleton_append]
  ·rw [if_pos h1, if_neg]
   rw [kidsIn_cons]
   exact fun h => h1 h.1
theorem widths_lp {d : List tDecl} {t : List tTNode} (hd : d.length <= 1099511627776) (ht : t.length <= 400) : ∀ (ys : List tTNode) (wide z : List Int) (used : List Bool), t.drop wide.length = ys -> (wide ++ z).length = t.length -> used.length = t.length -> WOk wide ->
  ∀ (Kx : Nat -> Int -> List Int -> List Bool -> Prop) (Kr : Nat -> Bool -> List Int -> Prop),
  (Ev (fun n => Z17.l6 n d t.length t.length wide.length (wide ++ z) used t (Kx n) (Kr n)) ↔ match widthsGo d ys wide used with
   | some r => Ev (fun n => Kx n t.length r.1 r.2)
   | none => Ev (fun n => Kr n false []))
 | [], wide, z, used, h, hz, hu, hw, Kx, Kr => by
  have hle := List.drop_eq_nil_iff.1 h
  have hz0 : z = [] := by
   rw [List.length_append] at hz
   exact List.eq_nil_of_length_eq_zero (by omega)
  subst hz0
  refine Ev.suc.trans ?_
  simp (disch := omega) only [Z17.l6, Z17.l6.b, if_neg, decide_eq_true_eq, Ev.s3 Kx, widthsGo, List.append_nil]
 | x :: ys, wide, z, used, h, hz, hu, hw, Kx, Kr => by
  have h' : t.drop (wide.length : Int).toNat = x :: ys := h
  obtain ⟨e1, e2, e3⟩ := drop_cons h' (by omega)
  have e2' : rd t wide.length = x := e2
  rw [List.length_append] at hz
  refine Ev.suc.trans ?_
  simp (disch := omega) only [Z17.l6, Z17.l6.b, if_pos, decide_eq_true_eq, Ev.iteI, grd_dec2, Int.toNat_natCast, e2', Ev.s2 Kr]
  rw [widthsGo]
  have hse := step_eq (d := d) (x := x) (kw := x.2.2.2.2.2.2.map fun k => rd wide k.toNat)
  by_cases hk : x.2.2.2.2.2.2.length <= 4096
  ·rw [if_neg (by omega)]
   simp (disch := omega) only [grd_dec2, decide_true, Bool.and_true]
   rw [kids_lp hk (by omega) (by rw [List.length_append]; omega) (by omega) x.2.2.2.2.2.2 0 _ _ rfl (by omega) (by omega) (by simp), Ev.s2 Kr]
   by_cases hin : kidsIn wide.length x.2.2.2.2.2.2 = true
   ·rw [if_pos hin]
    have hwk := kids_wok hw hin
    have hmap : (x.2.2.2.2.2.2.map fun k => rd (wide ++ z) k.toNat) = x.2.2.2.2.2.2.map fun k => rd wide k.toNat := by
     apply List.map_congr_left
     intro k hk'
     rw [kidsIn, List.all_eq_true] at hin
     have := hin k hk'
     rw [decide_eq_true_eq] at this
     exact rd_app (by omega)
    have hse := hse hwk (by simp)
    rw [if_pos hk] at hse
    simp only [Int.toNat_zero, List.take_zero, List.nil_append, hmap]
    simp (disch := first | assumption | (simp only [List.length_map, List.length_append, List.length_set]; omega) | omega) only [width_ev hd (by simpa using hk) (fun w hw' => ⟨by have := hwk w hw'; omega, (hwk w hw').2⟩), plain_ev, Ev.iteI, Bool.not_eq_false', grd_dec2, rd_set, Int.toNat_natCast, inside_ev, Bool.not_eq_true', decide_eq_false_iff_not, wrap64, Ev.s2 Kr]
    by_cases hp : plainB x = true
    ·rw [if_pos hp]
     have hst : stepW d x wide = acc (nodeW d x (x.2.2.2.2.2.2.map fun k => rd wide k.toNat)) := by
      rw [hse, stepW]
      by_cases hkb : kindB d x = true
      ·rw [if_pos ⟨hin, hp, hkb⟩, if_pos hkb]
      ·rw [if_neg (fun h => hkb h.2.2), if_neg hkb]
     by_cases hacc : 1 <= nodeW d x (x.2.2.2.2.2.2.map fun k => rd wide k.toNat) /\ nodeW d x (x.2.2.2.2.2.2.map fun k => rd wide k.toNat) <= 4096
     ·rw [if_neg (fun h => h hacc)]
      rw [hst, acc, if_pos hacc]
      simp only []
      match z, hz with
      | [], hz => simp at hz; omega
      | v :: z, hz =>
       have es : (wide ++ v :: z).set wide.length (nodeW d x (x.2.2.2.2.2.2.map fun k => rd wide k.toNat)) = (wide ++ [nodeW d x (x.2.2.2.2.2.2.map fun k => rd wide k.toNat)]) ++ z := by
        rw [List.set_append_right _ _ (Nat.le_refl _), Nat.sub_self, List.set_cons_zero, List.append_assoc]; rfl
       rw [es]
       have el : ((wide.length : Int) + 1) = ((wide ++ [nodeW d x (x.2.2.2.2.2.2.map fun k => rd wide k.toNat)]).length : Int) := by simp
       rw [el, widths_lp hd ht ys _ z _ (by rw [<- e3, List.length_append]; rfl) (by simp at hz ⊢; omega) (by rw [setAll_len]; exact hu) (hw.app hacc)]
       cases widthsGo d ys (wide ++ [nodeW d x (x.2.2.2.2.2.2.map fun k => rd wide k.toNat)]) (setAll used x.2.2.2.2.2.2) with
       | none => exact Ev.s2 Kr _ _
       | some r => exact Ev.s3 Kx _ _ _
     ·rw [if_pos hacc, hst, acc, if_neg hacc]
    ·rw [if_neg hp, stepW, if_neg (fun h => hp h.2.1)]
   ·rw [if_neg hin, stepW, if_neg (fun h => hin h.1)]
  ·rw [if_pos (by omega)]
   have : stepW d x wide = none := by
    unfold stepW
    split
    ·rename_i hh
     have hse := hse (kids_wok hw hh.1) (by simp)
     rw [if_neg hk, if_pos hh.2.2] at hse
     exact hse.symm
    ·rfl
   rw [this]
end Go.Vsi
end

section
set_option linter.unusedVariables false
set_option linter.unusedSimpArgs false
set_option synthInstance.maxSize 4096
namespace Go.Vsi
theorem Z63_lp {l : List Bool} {v : Bool} (hl : l.length <= 1099511627776) : ∀ (ys : List Bool) (x : Int), l.drop x.toNat = ys -> 0 <= x ->
  ∀ (Kx : Nat -> Prop) (Kr : Nat -> Int -> Prop),
  (Ev (fun n => Z63.l2 n l v l.length x (Kx n) (Kr n)) ↔ if firstIx (fun y => v == y) ys x < 0 then Ev Kx else Ev (fun n => Kr n (firstIx (fun y => v == y) ys x)))
 | [], x, h, h0, Kx, Kr => by
  have := drop_nil h h0
  rw [firstIx, if_pos (by decide)]
  refine Ev.suc.trans ?_
  simp (disch := omega) only [Z63.l2, Z63.l2.b, if_neg, decide_eq_true_eq, Ev.s0 Kx]
 | y :: ys, x, h, h0, Kx, Kr => by
  obtain ⟨e1, e2, e3⟩ := drop_cons h h0
  refine Ev.suc.trans ?_
  simp (disch := first | omega | omega) only [Z63.l2, Z63.l2.b, if_pos, decide_eq_true_eq, grd_dec2, e2, wrap64, Ev.s1 Kr, Ev.s0 Kx, Ev.iteI]
  rw [Z63_lp hl ys (x + 1) e3 (by omega), Ev.s0 Kx, Ev.s1 Kr]
  simp only [firstIx, decide_eq_true_eq]
  split
  ·rw [if_neg (by omega)]
  ·rfl
theorem Z63_ev {l : List Bool} {v : Bool} (hl : l.length <= 1099511627776) (R : Nat -> Int -> Prop) :
  Ev (fun n => Z63.c n l v (R n)) ↔ Ev (fun n => R n (firstIx (fun y => v == y) l 0)) := by
 refine Ev.suc.trans ?_
 simp only [Z63.c, Z63.w]
 rw [Z63_lp hl l 0 rfl (by omega), Ev.s1 R, Ev.s1 R]
 split
 ·rw [firstIx_neg (by omega) ‹_›]
 ·rfl
theorem Z59_ev {l : List Bool} {v : Bool} (hl : l.length <= 1099511627776) (R : Nat -> Bool -> Prop) :
  Ev (fun n => Z59.c n l v (R n)) ↔ Ev (fun n => R n (l.any fun y => v == y)) := by
 refine Ev.suc.trans ?_
 simp only [Z59.c, Z59.w]
 rw [Z63_ev hl, Ev.s1 R, firstIx_any (by omega)]
theorem any_false (l : List Bool) : (!(l.any fun y => false == y)) = l.all id := by
 induction l with
 | nil => rfl
 | cons a l ih => rw [List.any_cons, List.all_cons, Bool.not_or, ih]; cases a <;> rfl
def widthsI (d : List tDecl) (t : List tTNode) : List Int × Bool :=
 if 1 <= t.length /\ t.length <= 400 then (match widthsGo d t [] (List.replicate t.length false) with
  | some r => (r.1, (r.2.take (t.length - 1)).all id)
  | none => ([], false)) else ([], false)
theorem widthsI_ok {d : List tDecl} {t : List tTNode} (h : (widthsI d t).2 = true) : WOk (widthsI d t).1 /\ (widthsI d t).1.length = t.length /\ 1 <= t.length /\ t.length <= 400 := by
 unfold widthsI at h ⊢
 by_cases hl : 1 <= t.length /\ t.length <= 400
 ·rw [if_pos hl] at h ⊢
  cases hg : widthsGo d t [] (List.replicate t.length false) with
  | none => rw [hg] at h; cases h
  | some r =>
   rw [hg] at h
   obtain ⟨h1, h2, h3⟩ := widthsGo_ok (fun w hw => by cases hw) hg
   exact ⟨h1, by simpa using h2, hl⟩
 ·rw [if_neg hl] at h; cases h
theorem widths_ev {d : List tDecl} {t : List tTNode} (hd : d.length <= 1099511627776) (R : Nat -> List Int -> Bool -> Prop) :
  Ev (fun n => Z17.c n d t (R n)) ↔ Ev (fun n => R n (widthsI d t).1 (widthsI d t).2) := by
 refine Ev.suc.trans ?_
 simp only [Z17.c, Z17.w, Ev.iteI, decide_eq_true_eq, decide_eq_false_iff_not, Ev.s2 R, widthsI]
 by_cases hl : 1 <= t.length /\ t.length <= 400
 ·rw [if_pos (by omega), if_neg (by omega), if_pos hl]
  have lp := fun (Kx : Nat -> Int -> List Int -> List Bool -> Prop) (Kr : Nat -> Bool -> List Int -> Prop) => widths_lp hd hl.2 t [] (List.replicate t.length 0) (List.replicate t.length false) rfl (by simp) (by simp) (fun w hw => by cases hw) Kx Kr
  simp only [List.length_nil, List.nil_append, Int.natCast_zero] at lp
  simp (disch := omega) only [Z17.j1, Z17.j0, grd_dec2, decide_true, Bool.and_true, and_self, Int.toNat_natCast]
  rw [lp]
  cases hg : widthsGo d t [] (List.replicate t.length false) with
  | none => exact Ev.s2 R _ _
  | some r =>
   obtain ⟨h1, h2, h3⟩ := widthsGo_ok (fun w hw => by cases hw) hg
   rw [List.length_replicate] at h3
   simp (disch := omega) only [wrap64, grd_dec3]
   rw [Z59_ev (by simp; omega), Ev.s2 R]
   rw [any_false, List.drop_zero, show ((t.length : Int) - 1).toNat = t.length - 1 from by omega]
 ·rw [if_neg hl]
  split
  ·rw [if_pos (by omega)]
  ·rfl
def widthI (d : List tDecl) (t : List tTNode) : Int := if (widthsI d t).2 = true then rd (widthsI d t).1 (t.length - 1) else -1
theorem widthI_ev {d : List tDecl} {t : List tTNode} (hd : d.length <= 1099511627776) (R : Nat -> Int -> Prop) :
  Ev (fun n => Z16.c n d t (R n)) ↔ Ev (fun n => R n (widthI d t)) := by
 refine Ev.suc.trans ?_
 simp only [Z16.c, Z16.w, widths_ev hd, Ev.iteI, Bool.not_eq_true', Ev.s1 R, widthI]
 by_cases h : (widthsI d t).2 = true
 ·obtain ⟨h1, h2, h3, h4⟩ := widthsI_ok h
  rw [if_pos h, if_neg (by simp [h])]
  simp (disch := omega) only [wrap64, grd_dec2, Ev.s1 R]
  rw [show (((widthsI d t).1.length : Int) - 1).toNat = t.length - 1 from by omega]
 ·rw [if_neg h, if_pos (by simpa using h)]
def widthOf (d : List tDecl) (t : List tTNode) : Int := if declsOk d = true then widthI d t else -1
theorem wideS_lp {d : List tDecl} {wide : List Int} {a b c e f : Int} {w ks : List Int} (hl : ks.length <= 1099511627776) (hw : WOk wide) : ∀ (ys : List Int) (s x : Int), ks.drop x.toNat = ys -> 0 <= x -> 0 <= s -> s <= 8192 -> kidsIn wide.length ys = true ->
  ∀ (Kx : Nat -> List tDecl -> Int -> Int -> Int -> Int -> Int -> Int -> List Int -> List Int -> Prop),
  (Ev (fun n => Z81.l3 n d wide a b c e f w ks s x (Kx n)) ↔ Ev (fun n => Kx n d (capSum s (ys.map fun k => rd wide k.toNat)) a b c e f w ks))
 | [], s, x, h, h0, hs, hs', hk, Kx => by
  have := drop_nil h h0
  refine Ev.suc.trans ?_
  simp (disch := omega) only [Z81.l3, Z81.l3.b, if_neg, decide_eq_true_eq, Ev.s9 Kx, List.map_nil, capSum]
 | y :: ys, s, x, h, h0, hs, hs', hk, Kx => by
  obtain ⟨e1, e2, e3⟩ := drop_cons h h0
  rw [kidsIn_cons] at hk
  have hy := hw _ (rd_mem hk.1.1 (show y < (wide.length : Int) by omega))
  refine Ev.suc.trans ?_
  simp (disch := omega) only [Z81.l3, Z81.l3.b, if_pos, decide_eq_true_eq, grd_dec2, e2, wrap64]
  rw [wideS_lp hl hw ys _ (x + 1) e3 (by omega) (by split <;> omega) (by split <;> omega) hk.2, Ev.s9 Kx, List.map_cons, capSum]
theorem wideS_ev {d : List tDecl} {wide : List Int} {a b c e f : Int} {w ks : List Int} (hd : d.length <= 1099511627776) (hl : ks.length <= 1099511627776) (hw : WOk wide) (hk : kidsIn wide.length ks = true) (hkb : kindB d (a, b, c, e, f, w, ks) = true) (R : Nat -> Int -> Prop) :
  Ev (fun n => Z81.c n d a b c e f w ks wide (R n)) ↔ Ev (fun n => R n (specW d (a, b, c, e, f, w, ks) (capSum 0 (ks.map fun k => rd wide k.toNat)))) := by
 refine Ev.suc.trans ?_
 simp only [Z81.c, Z81.w]
 rw [wideS_lp hl hw ks 0 0 rfl (by omega) (by omega) (by omega) hk]
 have hs : 0 <= capSum 0 (ks.map fun k => rd wide k.toNat) /\ capSum 0 (ks.map fun k => rd wide k.toNat) <= 8192 := by
  have hwk := kids_wok hw hk
  have := sum_ge hwk
  rw [capSum_eq (by omega) (by omega) hwk]
  split <;> omega
 generalize capSum 0 (ks.map fun k => rd wide k.toNat) = s at hs
 rw [kindB, decide_eq_true_eq] at hkb
 simp only [] at hkb
 simp only [Z81.j2, Z81.j3, Ev.iteI, decide_eq_true_eq, decide_eq_false_iff_not, Bool.not_eq_true', l1In_ev, Ev.s1 R, if_true]
 rw [specW]
 simp only []
 by_cases h1 : a = 1
 ·rw [if_pos h1, if_pos h1]
  simp (disch := omega) only [grd_dec2, Ev.s1 R]
 rw [if_neg h1, if_neg h1]
 by_cases h2 : a = 2
 ·rw [if_pos h2, if_pos h2]
 rw [if_neg h2, if_neg h2]
 by_cases h4 : a = 4
 ·rw [if_pos h4, if_pos h4]
  by_cases g1 : e < 0
  ·rw [if_neg (by omega), if_pos (Or.inl g1)]
  rw [if_pos g1]
  by_cases g2 : c < e
  ·rw [if_neg (by omega), if_pos (Or.inr (Or.inl g2))]
  rw [if_pos g2]
  by_cases g3 : c >= s
  ·rw [if_pos g3, if_pos (Or.inr (Or.inr g3))]
  rw [if_neg g3, if_neg (by omega), wrap64 (x := c - e) (by omega) (by omega), wrap64 (by omega) (by omega)]
 rw [if_neg h4, if_neg h4]
 have hm : 1 <= c /\ c <= 4096 -> IntKind.wrap .i64 (s * c) = s * c := fun h => by
  have := mulB hs.1 hs.2 (show 0 <= c by omega) h.2
  exact wrap64 (by omega) (by omega)
 have hp : 0 <= c /\ c <= 4096 -> IntKind.wrap .i64 (s + c) = s + c := fun h => wrap64 (by omega) (by omega)
 have key56 : (if ¬ (0 <= c /\ c <= 4096) then Ev fun n => R n (-1) else Ev fun n => R n (IntKind.wrap .i64 (s + c))) ↔ Ev fun n => R n (if 0 <= c /\ c <= 4096 then s + c else -1) := by
  by_cases g : 0 <= c /\ c <= 4096
  ·rw [if_neg (fun h => h g), if_pos g, hp g]
  ·rw [if_pos g, if_neg g]
 have key78 : (if ¬ (0 <= c /\ c <= 4096) then Ev fun n => R n (-1) else Ev fun n => R n s) ↔ Ev fun n => R n (if 0 <= c /\ c <= 4096 then s else -1) := by
  by_cases g : 0 <= c /\ c <= 4096
  ·rw [if_neg (fun h => h g), if_pos g]
  ·rw [if_pos g, if_neg g]
 have key9 : (if ¬ (1 <= c /\ c <= 4096) then Ev fun n => R n (-1) else Ev fun n => R n (IntKind.wrap .i64 (s * c))) ↔ Ev fun n => R n (if 1 <= c /\ c <= 4096 then s * c else -1) := by
  by_cases g : 1 <= c /\ c <= 4096
  ·rw [if_neg (fun h => h g), if_pos g, hm g]
  ·rw [if_pos g, if_neg g]
 by_cases h5 : a = 5
 ·rw [if_pos h5, if_pos (Or.inl h5)]; exact key56
 rw [if_neg h5]
 by_cases h6 : a = 6
 ·rw [if_pos h6, if_pos (Or.inr h6)]; exact key56
 rw [if_neg h6, if_neg (show ¬ (a = 5 \/ a = 6) by omega)]
 by_cases h7 : a = 7
 ·rw [if_pos h7, if_pos (Or.inl h7)]; exact key78
 rw [if_neg h7]
 by_cases h8 : a = 8
 ·rw [if_pos h8, if_pos (Or.inr h8)]; exact key78
 rw [if_neg h8, if_neg (show ¬ (a = 7 \/ a = 8) by omega)]
 by_cases h9 : a = 9
 ·rw [if_pos h9, if_pos h9]; exact key9
 rw [if_neg h9, if_neg h9]
theorem usedS_lp {d : List tDecl} {i : Int} {o wide : List Int} {t : List tTNode} {x : tTNode} (hi0 : 0 <= i) (hi : i < (t.length : Int)) (hx : rd t i.toNat = x) (hl : x.2.2.2.2.2.2.length <= 1099511627776) : ∀ (ys : List Int) (j : Int) (used : List Bool), x.2.2.2.2.2.2.drop j.toNat = ys -> 0 <= j -> used.length = t.length -> kidsIn i ys = true ->
  ∀ (Kx : Nat -> List tDecl -> Int -> List Int -> List Bool -> List Int -> List tTNode -> Prop),
  (Ev (fun n => Z82.l16 n d i o wide t j used (Kx n)) ↔ Ev (fun n => Kx n d i o (setAll used ys) wide t))
 | [], j, used, h, h0, hu, hk, Kx => by
  have := drop_nil h h0
  refine Ev.suc.trans ?_
  simp (disch := omega) only [Z82.l16, Z82.l16.b, grd_dec2, hx, if_neg, decide_eq_true_eq, Ev.s6 Kx, setAll]
 | y :: ys, j, used, h, h0, hu, hk, Kx => by
  obtain ⟨e1, e2, e3⟩ := drop_cons h h0
  rw [kidsIn_cons] at hk
  refine Ev.suc.trans ?_
  simp (disch := omega) only [Z82.l16, Z82.l16.b, grd_dec2, hx, if_pos, decide_eq_true_eq, e2, wrap64]
  rw [usedS_lp hi0 hi hx hl ys (j + 1) _ e3 (by omega) (by simpa using hu) hk.2, Ev.s6 Kx, setAll]
theorem widthsS_lp {d : List tDecl} {t : List tTNode} (hd : d.length <= 1099511627776) (ht : t.length <= 400) (hg : ∀ x : tTNode, x ∈ t -> Wd x.2.2.2.2.2.1 /\ x.2.2.2.2.2.2.length <= 1099511627776) : ∀ (ys : List tTNode) (wide : List Int) (used : List Bool), t.drop wide.length = ys -> (∀ x : tTNode, x ∈ ys -> Wd x.2.2.2.2.2.1 /\ x.2.2.2.2.2.2.length <= 1099511627776) -> used.length = t.length -> WOk wide ->
  ∀ (Kx : Nat -> List Int -> List Int -> List Bool -> Prop) (Kr : Nat -> List Int -> Prop),
  (Ev (fun n => Z82.l7 n d wide.length wide [] used t (Kx n) (Kr n)) ↔ match widthsGo d ys wide used with
   | some r => Ev (fun n => Kx n r.1 [] r.2)
   | none => Ev (fun n => Kr n []))
 | [], wide, used, h, hy, hu, hw, Kx, Kr => by
  have hle := List.drop_eq_nil_iff.1 h
  refine Ev.suc.trans ?_
  simp (disch := omega) only [Z82.l7, Z82.l7.b, if_neg, decide_eq_true_eq, Ev.s3 Kx, widthsGo]
 | x :: ys, wide, used, h, hy, hu, hw, Kx, Kr => by
  have h' : t.drop (wide.length : Int).toNat = x :: ys := h
  obtain ⟨e1, e2, e3⟩ := drop_cons h' (by omega)
  have e2' : rd t wide.length = x := e2
  have hx := hy x List.mem_cons_self
  refine Ev.suc.trans ?_
  simp (disch := first | exact hx.1 | exact hx.2 | omega) only [Z82.l7, Z82.l7.b, if_pos, decide_eq_true_eq, Ev.iteI, grd_dec2, Int.toNat_natCast, e2', Ev.s1 Kr, form_ev, Bool.not_eq_true']
  rw [widthsGo]
  by_cases hf : kidsIn wide.length x.2.2.2.2.2.2 = true /\ plainB x = true /\ kindB d x = true
  ·obtain ⟨f1, f2, f3⟩ := hf
   have e : (kidsIn (wide.length : Int) x.2.2.2.2.2.2 && plainB (x.1, x.2.1, x.2.2.1, x.2.2.2.1, x.2.2.2.2.1, x.2.2.2.2.2.1, x.2.2.2.2.2.2) && kindB d (x.1, x.2.1, x.2.2.1, x.2.2.2.1, x.2.2.2.2.1, x.2.2.2.2.2.1, x.2.2.2.2.2.2)) = true := by
    rw [f1, show plainB (x.1, x.2.1, x.2.2.1, x.2.2.2.1, x.2.2.2.2.1, x.2.2.2.2.2.1, x.2.2.2.2.2.2) = true from f2, show kindB d (x.1, x.2.1, x.2.2.1, x.2.2.2.1, x.2.2.2.2.1, x.2.2.2.2.2.1, x.2.2.2.2.2.2) = true from f3]; rfl
   rw [e, if_neg (by decide)]
   have hwi := fun (R : Nat -> Int -> Prop) => wideS_ev (wide := wide) hd hx.2 hw f1 f3 R
   simp (disch := omega) only [hwi, l1In_ev, Ev.iteI, Bool.not_eq_true', decide_eq_false_iff_not, Ev.s1 Kr, grd_dec]
   have hst : stepW d x wide = acc (specW d x (capSum 0 (x.2.2.2.2.2.2.map fun k => rd wide k.toNat))) := by
    rw [stepW, if_pos ⟨f1, f2, f3⟩]
   rw [hst]
   generalize hv : specW d x (capSum 0 (x.2.2.2.2.2.2.map fun k => rd wide k.toNat)) = v
   by_cases hacc : 1 <= v /\ v <= 4096
   ·rw [if_neg (fun h => h hacc), acc, if_pos hacc]
    simp only []
    simp (disch := (simp only [List.length_cons, List.length_nil]; omega)) only [grd_dec]
    rw [usedS_lp (by omega) e1 e2 hx.2 _ 0 used rfl (by omega) hu f1]
    have el : IntKind.wrap .i64 ((wide.length : Int) + 1) = ((wide ++ [v]).length : Int) := by
     rw [wrap64 (by omega) (by omega)]; simp
    rw [el, widthsS_lp hd ht hg ys (wide ++ [v]) _ (by rw [<- e3, List.length_append]; rfl) (fun x hx' => hy x (List.mem_cons_of_mem _ hx')) (by rw [setAll_len]; exact hu) (hw.app hacc)]
    simp only [Int.toNat_zero, List.drop_zero]
    cases widthsGo d ys (wide ++ [v]) (setAll used x.2.2.2.2.2.2) with
    | none => exact Ev.s1 Kr _
    | some r => exact Ev.s3 Kx _ _ _
   ·rw [if_pos hacc, acc, if_neg hacc]
  ·have e : (kidsIn (wide.length : Int) x.2.2.2.2.2.2 && plainB (x.1, x.2.1, x.2.2.1, x.2.2.2.1, x.2.2.2.2.1, x.2.2.2.2.2.1, x.2.2.2.2.2.2) && kindB d (x.1, x.2.1, x.2.2.1, x.2.2.2.1, x.2.2.2.2.1, x.2.2.2.2.2.1, x.2.2.2.2.2.2)) = false := by
    rw [Bool.eq_false_iff]
    intro h
    rw [Bool.and_eq_true, Bool.and_eq_true] at h
    exact hf ⟨h.1.1, h.1.2, h.2⟩
   rw [if_pos e, stepW, if_neg hf]
theorem allS_lp {wide : List Int} {used : List Bool} (hl : used.length <= 1048576) (h1 : 1 <= used.length) : ∀ (m : Nat) (i : Int), i + m = (used.length : Int) - 1 -> 0 <= i -> ∀ (Kx Kr : Nat -> List Int -> Prop),
  (Ev (fun n => Z82.l20 n wide [] used i (Kx n) (Kr n)) ↔ if ((used.take (used.length - 1)).drop i.toNat).all id = true then Ev (fun n => Kx n wide) else Ev (fun n => Kr n []))
 | 0, i, h, h0, Kx, Kr => by
  refine Ev.suc.trans ?_
  simp (disch := omega) only [Z82.l20, Z82.l20.b, wrap64, if_neg, decide_eq_true_eq, Ev.s1 Kx]
  rw [List.drop_eq_nil_of_le (by simp; omega)]
  simp
 | m + 1, i, h, h0, Kx, Kr => by
  refine Ev.suc.trans ?_
  have hk : i.toNat < (used.take (used.length - 1)).length := by simp; omega
  have e : (used.take (used.length - 1)).drop i.toNat = rd used i.toNat :: (used.take (used.length - 1)).drop (i + 1).toNat := by
   rw [List.drop_eq_getElem_cons hk, show (i + 1).toNat = i.toNat + 1 from by omega]
   congr 1
   rw [List.getElem_take, rd, List.getD_eq_getElem?_getD, List.getElem?_eq_getElem (by omega)]; rfl
  simp (disch := omega) only [Z82.l20, Z82.l20.b, wrap64, if_pos, decide_eq_true_eq, grd_dec2, Ev.iteI, Bool.not_eq_true', Ev.s1 Kr, e]
  rw [allS_lp hl h1 m (i + 1) (by omega) (by omega), Ev.s1 Kx, Ev.s1 Kr, List.all_cons, id]
  cases rd used i.toNat <;> simp
theorem widthsS_ev {d : List tDecl} {t : List tTNode} (hd : d.length <= 1099511627776) (hg : ∀ x : tTNode, x ∈ t -> Wd x.2.2.2.2.2.1 /\ x.2.2.2.2.2.2.length <= 1099511627776) (R : Nat -> List Int -> Prop) :
  Ev (fun n => Z82.c n d t (R n)) ↔ Ev (fun n => R n (if declsOk d = true /\ (widthsI d t).2 = true then (widthsI d t).1 else [])) := by
 refine Ev.suc.trans ?_
 simp only [Z82.c, Z82.w, declsOkS_ev, Ev.iteI, decide_eq_true_eq, decide_eq_false_iff_not, Bool.not_eq_false', Ev.s1 R, widthsI]
 by_cases h : declsOk d = true
 ·rw [if_pos h]
  by_cases hl : 1 <= t.length /\ t.length <= 400
  ·rw [if_pos (by omega), if_neg (by omega)]
   simp only [if_pos hl]
   have lp := fun (Kx : Nat -> List Int -> List Int -> List Bool -> Prop) (Kr : Nat -> List Int -> Prop) => widthsS_lp hd hl.2 hg t [] (List.replicate t.length false) rfl hg (by simp) (fun w hw => by cases hw) Kx Kr
   simp only [List.length_nil] at lp
   simp only [Int.natCast_zero] at lp
   simp (disch := omega) only [Z82.j0, grd_dec2, decide_true, Bool.and_true, Int.toNat_natCast]
   rw [lp]
   cases hg' : widthsGo d t [] (List.replicate t.length false) with
   | none => simp only [h, Bool.false_eq_true, and_false, if_false]; exact Ev.s1 R _
   | some r =>
    obtain ⟨h1, h2, h3⟩ := widthsGo_ok (fun w hw => by cases hw) hg'
    rw [List.length_replicate] at h3
    simp only [h, true_and]
    rw [allS_lp (by omega) (by omega) (t.length - 1) 0 (by omega) (by omega), Ev.s1 R, Ev.s1 R, h3]
    simp only [Int.toNat_zero, List.drop_zero]
    split <;> rfl
  ·simp only [if_neg hl, Bool.false_eq_true, and_false, if_false]
   split
   ·rw [if_pos (by omega)]
   ·rfl
 ·rw [if_neg h]
  simp only [h, false_and, if_false]
  rw [if_neg (by simp)]
theorem widthOfS_ev {d : List tDecl} {t : List tTNode} (hd : d.length <= 1099511627776) (hg : ∀ x : tTNode, x ∈ t -> Wd x.2.2.2.2.2.1 /\ x.2.2.2.2.2.2.length <= 1099511627776) (R : Nat -> Int -> Prop) :
  Ev (fun n => Z70.c n d t (R n)) ↔ Ev (fun n => R n (widthOf d t)) := by
 refine Ev.suc.trans ?_
 simp only [Z70.c, Z70.w, widthsS_ev hd hg, Ev.iteI, decide_eq_true_eq, Ev.s1 R, widthOf, widthI]
 by_cases h : declsOk d = true
 ·by_cases h2 : (widthsI d t).2 = true
  ·obtain ⟨h3, h4, h5, h6⟩ := widthsI_ok h2
   simp only [h, h2, and_self, if_true]
   rw [if_neg (by omega)]
   simp (disch := omega) only [wrap64, grd_dec2, Ev.s1 R]
   rw [show (((widthsI d t).1.length : Int) - 1).toNat = t.length - 1 from by omega]
  ·simp only [h, h2, and_false, if_false, List.length_nil, if_true]
   simp
 ·simp only [h, false_and, if_false, List.length_nil]
  simp
end Go.Vsi
end

section
set_option linter.unusedVariables false
set_option linter.unusedSimpArgs false
set_option synthInstance.maxSize 4096
namespace Go.Vsi
def LOk (l : List Int) : Prop := ∀ w ∈ l, 0 <= w /\ w <= 1000000
theorem LOk.app {acc : List Int} {w : Int} (h : LOk acc) (hw : 0 <= w /\ w <= 1000000) : LOk (acc ++ [w]) := by
 intro v hv
 rcases List.mem_append.1 hv with hv | hv
 ·exact h v hv
 ·rw [List.mem_singleton] at hv; subst hv; exact hw
end Go.Vsi
end

section
set_option linter.unusedVariables false
set_option linter.unusedSimpArgs false
set_option synthInstance.maxSize 4096
namespace Go.Vsi
def litsGo (d : List tDecl) : List tLiteral -> Int -> Bool
 | [], _ => true
 | l :: r, b => decide (b + 1 <= l.1 /\ l.1 <= 1000000) && !(decide (widthI d l.2.2.1 < 0)) && decide (widthI d l.2.2.1 = widthI d l.2.2.2) && litsGo d r l.1
def litsI (d : List tDecl) (l : List tLiteral) : Bool := decide (l.length <= 60) && litsGo d l 0
def litsOk (d : List tDecl) (l : List tLiteral) : Bool := declsOk d && litsI d l
theorem lits_lp {d : List tDecl} {l : List tLiteral} (hd : d.length <= 1099511627776) (hl : l.length <= 60) : ∀ (ys : List tLiteral) (x b : Int), l.drop x.toNat = ys -> 0 <= x -> 0 <= b -> b <= 1000000 -> ∀ (R : Nat -> Bool -> Prop),
  (Ev (fun n => Z11.l5 n d l l.length b x (R n true) (R n)) ↔ Ev (fun n => R n (litsGo d ys b)))
 | [], x, b, h, h0, hb, hb', R => by
  have := drop_nil h h0
  refine Ev.suc.trans ?_
  simp (disch := omega) only [Z11.l5, Z11.l5.b, if_neg, decide_eq_true_eq, Ev.s1 R, litsGo]
 | y :: ys, x, b, h, h0, hb, hb', R => by
  obtain ⟨e1, e2, e3⟩ := drop_cons h h0
  refine Ev.suc.trans ?_
  simp (disch := omega) only [Z11.l5, Z11.l5.b, if_pos, decide_eq_true_eq, decide_eq_false_iff_not, grd_dec2, e2, wrap64, widthI_ev hd, inside_ev, Ev.iteI, Bool.not_eq_false', Bool.not_eq_true', Ev.s1 R, litsGo]
  by_cases h1 : b + 1 <= y.1 /\ y.1 <= 1000000
  ·rw [if_pos h1]
   by_cases h2 : widthI d y.2.2.1 < 0
   ·rw [if_neg (fun h => h h2)]; simp [h2]
   ·rw [if_pos h2]
    by_cases h3 : widthI d y.2.2.1 = widthI d y.2.2.2
    ·rw [if_neg (fun h => h h3), lits_lp hd hl ys (x + 1) y.1 e3 (by omega) (by omega) (by omega) (fun n => R (n + 1)), Ev.s1 R]
     simp only [h1, h2, h3, and_self, decide_true, decide_false, Bool.not_false, Bool.true_and]
     rw [<- h3]; simp [h2]
    ·rw [if_pos h3]; simp [h3]
  ·rw [if_neg h1]; simp [h1]
theorem litsI_ev {d : List tDecl} {l : List tLiteral} (hd : d.length <= 1099511627776) (R : Nat -> Bool -> Prop) :
  Ev (fun n => Z11.c n d l (R n)) ↔ Ev (fun n => R n (litsI d l)) := by
 refine Ev.suc.trans ?_
 simp only [Z11.c, Z11.w, Ev.iteI, decide_eq_true_eq, Ev.s1 R, litsI]
 by_cases h : l.length <= 60
 ·rw [if_neg (by omega), lits_lp hd h l 0 0 rfl (by omega) (by omega) (by omega) (fun n => R (n + 1)), Ev.s1 R]
  simp [h]
 ·rw [if_pos (by omega)]; simp [h]
theorem litsOk_ev {d : List tDecl} {l : List tLiteral} (hd : d.length <= 1099511627776) (R : Nat -> Bool -> Prop) :
  Ev (fun n => Z2.c n d l (R n)) ↔ Ev (fun n => R n (litsOk d l)) := by
 refine Ev.suc.trans ?_
 simp only [Z2.c, Z2.w, declsOk_ev, Ev.iteI, litsI_ev hd, Ev.s1 R, litsOk]
 by_cases h : declsOk d = true
 ·rw [if_pos h, h, Bool.true_and]
 ·rw [if_neg h, show declsOk d = false from by simpa using h, Bool.false_and]
def LitG (l : List tLiteral) : Prop := ∀ y : tLiteral, y ∈ l -> (∀ x : tTNode, x ∈ y.2.2.1 -> Wd x.2.2.2.2.2.1 /\ x.2.2.2.2.2.2.length <= 1099511627776) /\ (∀ x : tTNode, x ∈ y.2.2.2 -> Wd x.2.2.2.2.2.1 /\ x.2.2.2.2.2.2.length <= 1099511627776)
theorem widthOf_I {d : List tDecl} {t : List tTNode} (h : declsOk d = true) : widthOf d t = widthI d t := by rw [widthOf, if_pos h]
theorem litsS_lp {d : List tDecl} {l : List tLiteral} (hd : d.length <= 1099511627776) (hok : declsOk d = true) (hl : l.length <= 60) : ∀ (ys : List tLiteral) (x b : Int), l.drop x.toNat = ys -> 0 <= x -> LitG ys -> 0 <= b -> (x = 0 -> b = 0) -> (0 < x -> (rd l (x - 1).toNat).1 = b) -> ∀ (R : Nat -> Bool -> Prop),
  (Ev (fun n => Z67.l4 n d l x (R n true) (R n)) ↔ Ev (fun n => R n (litsGo d ys b)))
 | [], x, b, h, h0, hg, hb, hb0, hb1, R => by
  have := drop_nil h h0
  refine Ev.suc.trans ?_
  simp (disch := omega) only [Z67.l4, Z67.l4.b, if_neg, decide_eq_true_eq, Ev.s1 R, litsGo]
 | y :: ys, x, b, h, h0, hg, hb, hb0, hb1, R => by
  obtain ⟨e1, e2, e3⟩ := drop_cons h h0
  have hgy := hg y List.mem_cons_self
  have s1 := fun (R : Nat -> Int -> Prop) => widthOfS_ev (t := y.2.2.1) hd hgy.1 R
  have s2 := fun (R : Nat -> Int -> Prop) => widthOfS_ev (t := y.2.2.2) hd hgy.2 R
  have tail : 1 <= y.1 /\ y.1 <= 1000000 -> ((if widthI d y.2.2.1 < 0 then Ev (fun n => R n false) else if ¬ widthI d y.2.2.2 = widthI d y.2.2.1 then Ev (fun n => R n false) else Ev fun n => Z67.l4 n d l (x + 1) (R (n + 1) true) (R (n + 1))) ↔
    Ev fun n => R n (!(decide (widthI d y.2.2.1 < 0)) && decide (widthI d y.2.2.1 = widthI d y.2.2.2) && litsGo d ys y.1)) := fun hr => by
   by_cases h2 : widthI d y.2.2.1 < 0
   ·rw [if_pos h2]; simp [h2]
   ·rw [if_neg h2]
    by_cases h3 : widthI d y.2.2.2 = widthI d y.2.2.1
    ·rw [if_neg (fun h => h h3), litsS_lp hd hok hl ys (x + 1) y.1 e3 (by omega) (fun z hz => hg z (List.mem_cons_of_mem _ hz)) (by omega) (by omega) (fun _ => by rw [show x + 1 - 1 = x from by omega, e2]) (fun n => R (n + 1)), Ev.s1 R, h3]
     simp [h2]
    ·rw [if_pos h3, show decide (widthI d y.2.2.1 = widthI d y.2.2.2) = false from by rw [decide_eq_false_iff_not]; exact fun h => h3 h.symm]
     simp
  refine Ev.suc.trans ?_
  rw [litsGo]
  by_cases hr : 1 <= y.1 /\ y.1 <= 1000000
  ·by_cases hx : 0 < x
   ·have hp := hb1 hx
    simp (disch := omega) only [Z67.l4, Z67.l4.b, if_pos, decide_eq_true_eq, decide_eq_false_iff_not, grd_dec2, e2, wrap64, s1, s2, l1In_ev, Ev.iteI, Bool.not_eq_false', Bool.not_eq_true', Ev.s1 R, widthOf_I hok, hp, gt_iff_lt, ite_not]
    by_cases h4 : y.1 <= b
    ·rw [if_pos h4, show decide (b + 1 <= y.1 /\ y.1 <= 1000000) = false from by rw [decide_eq_false_iff_not]; omega]; simp
    ·rw [if_neg h4, show decide (b + 1 <= y.1 /\ y.1 <= 1000000) = true from by rw [decide_eq_true_eq]; omega, Bool.true_and]
     have t := tail hr
     simp only [ite_not] at t
     exact t
   ·have hx0 : x = 0 := by omega
    have hbz := hb0 hx0
    subst hbz
    simp (disch := omega) only [Z67.l4, Z67.l4.b, if_pos, if_neg, decide_eq_true_eq, decide_eq_false_iff_not, grd_dec2, e2, wrap64, s1, s2, l1In_ev, Ev.iteI, Bool.not_eq_false', Bool.not_eq_true', Ev.s1 R, widthOf_I hok, gt_iff_lt, ite_not]
    rw [show decide ((0 : Int) + 1 <= y.1 /\ y.1 <= 1000000) = true from by rw [decide_eq_true_eq]; omega, Bool.true_and]
    have t := tail hr
    simp only [ite_not] at t
    exact t
  ·simp (disch := omega) only [Z67.l4, Z67.l4.b, if_pos, decide_eq_true_eq, grd_dec2, e2, s1, l1In_ev, Ev.iteI, Bool.not_eq_false', hr, if_false, Ev.s1 R]
   rw [show decide (b + 1 <= y.1 /\ y.1 <= 1000000) = false from by rw [decide_eq_false_iff_not]; omega]; simp
theorem litsS_ev {d : List tDecl} {l : List tLiteral} (hd : d.length <= 1099511627776) (hg : LitG l) (R : Nat -> Bool -> Prop) :
  Ev (fun n => Z67.c n d l (R n)) ↔ Ev (fun n => R n (litsOk d l)) := by
 refine Ev.suc.trans ?_
 simp only [Z67.c, Z67.w, declsOkS_ev, Ev.iteI, decide_eq_true_eq, Bool.not_eq_false', Ev.s1 R, litsOk, litsI]
 by_cases h : declsOk d = true
 ·rw [if_pos h, h, Bool.true_and]
  by_cases hl : l.length <= 60
  ·rw [if_neg (by omega), litsS_lp hd h hl l 0 0 rfl (by omega) hg (by omega) (fun _ => rfl) (fun h => absurd h (by omega)) (fun n => R (n + 1)), Ev.s1 R]
   simp [hl]
  ·rw [if_pos (by omega)]; simp [hl]
 ·rw [if_neg h, show declsOk d = false from by simpa using h, Bool.false_and]
end Go.Vsi
end

section
set_option linter.unusedVariables false
set_option linter.unusedSimpArgs false
set_option synthInstance.maxSize 4096
namespace Go.Vsi
theorem has_lp {l : List Int} {a : Int} (hl : l.length <= 1099511627776) : ∀ (ys : List Int) (x : Int), l.drop x.toNat = ys -> 0 <= x -> ∀ (Kx : Nat -> Prop) (Kr : Nat -> Bool -> Prop),
  (Ev (fun n => Z75.l2 n l a x (Kx n) (Kr n)) ↔ if a ∈ ys then Ev (fun n => Kr n true) else Ev Kx)
 | [], x, h, h0, Kx, Kr => by
  have := drop_nil h h0
  refine Ev.suc.trans ?_
  simp (disch := omega) only [Z75.l2, Z75.l2.b, if_neg, decide_eq_true_eq, Ev.s0 Kx, List.not_mem_nil, if_false]
 | y :: ys, x, h, h0, Kx, Kr => by
  obtain ⟨e1, e2, e3⟩ := drop_cons h h0
  refine Ev.suc.trans ?_
  simp (disch := omega) only [Z75.l2, Z75.l2.b, if_pos, decide_eq_true_eq, grd_dec2, e2, wrap64, Ev.iteI, Ev.s1 Kr]
  rw [has_lp hl ys (x + 1) e3 (by omega), Ev.s0 Kx, Ev.s1 Kr]
  by_cases hy : y = a
  ·subst hy; simp
  ·rw [if_neg hy]
   have : a ∈ y :: ys ↔ a ∈ ys := by simp [Ne.symm hy]
   simp only [this]
theorem has_ev {l : List Int} {a : Int} (hl : l.length <= 1099511627776) (R : Nat -> Bool -> Prop) :
  Ev (fun n => Z75.c n l a (R n)) ↔ Ev (fun n => R n (decide (a ∈ l))) := by
 refine Ev.suc.trans ?_
 simp only [Z75.c, Z75.w]
 rw [has_lp hl l 0 rfl (by omega) (fun n => R (n + 1) false) (fun n => R (n + 1)), Ev.s1 R, Ev.s1 R]
 by_cases h : a ∈ l
 ·rw [if_pos h, decide_eq_true h]
 ·rw [if_neg h, decide_eq_false h]
def ins (x : Int) (out : List Int) : List Int := out.filter (fun y => decide (y <= x)) ++ x :: out.filter (fun y => decide (x < y))
def risingGo : List Int -> List Int -> List Int
 | [], out => out
 | x :: r, out => risingGo r (if x ∈ out then out else ins x out)
def rising (l : List Int) : List Int := risingGo l []
def Rises (l : List Int) : Prop := l.Pairwise (· < ·)
theorem ins_rises {x : Int} {l : List Int} (h : Rises l) (hx : x ∉ l) : Rises (ins x l) := by
 unfold Rises ins
 rw [List.pairwise_append]
 refine ⟨h.filter _, ?_, ?_⟩
 ·rw [List.pairwise_cons]
  refine ⟨fun y hy => ?_, h.filter _⟩
  simpa using (List.mem_filter.1 hy).2
 ·intro a ha b hb
  have h1 := List.mem_filter.1 ha
  have h2 := h1.2
  rw [decide_eq_true_eq] at h2
  have hne : a ≠ x := by rintro rfl; exact hx h1.1
  rcases List.mem_cons.1 hb with rfl | hb
  ·omega
  ·have h3 := (List.mem_filter.1 hb).2
   rw [decide_eq_true_eq] at h3
   omega
theorem mem_ins {x y : Int} {l : List Int} : y ∈ ins x l ↔ y = x \/ y ∈ l := by
 unfold ins
 simp only [List.mem_append, List.mem_cons, List.mem_filter, decide_eq_true_eq]
 constructor
 ·rintro (⟨h, _⟩ | h | ⟨h, _⟩)
  ·exact .inr h
  ·exact .inl h
  ·exact .inr h
 ·rintro (h | h)
  ·exact .inr (.inl h)
  ·by_cases hy : y <= x
   ·exact .inl ⟨h, hy⟩
   ·exact .inr (.inr ⟨h, by omega⟩)
theorem filter_two (x : Int) : ∀ l : List Int, (l.filter fun y => decide (y <= x)).length + (l.filter fun y => decide (x < y)).length = l.length
 | [] => rfl
 | y :: l => by
  have := filter_two x l
  by_cases h : y <= x
  ·have h' : ¬ x < y := by omega
   simp [h, h']; omega
  ·have h' : x < y := by omega
   simp [h, h']; omega
theorem ins_len {x : Int} {l : List Int} : (ins x l).length = l.length + 1 := by
 have := filter_two x l
 unfold ins
 rw [List.length_append, List.length_cons]; omega
theorem risingGo_rises : ∀ {l out : List Int}, Rises out -> Rises (risingGo l out)
 | [], out, h => h
 | x :: l, out, h => by
  rw [risingGo]
  split
  ·exact risingGo_rises h
  ·rename_i hx; exact risingGo_rises (ins_rises h hx)
theorem mem_risingGo {y : Int} : ∀ {l out : List Int}, y ∈ risingGo l out ↔ y ∈ out \/ y ∈ l
 | [], out => by simp [risingGo]
 | x :: l, out => by
  rw [risingGo, mem_risingGo, List.mem_cons]
  split
  ·rename_i hx
   constructor
   ·rintro (h | h); exact .inl h; exact .inr (.inr h)
   ·rintro (h | rfl | h)
    ·exact .inl h
    ·exact .inl hx
    ·exact .inr h
  ·rw [mem_ins]
   constructor
   ·rintro ((h | h) | h)
    ·exact .inr (.inl h)
    ·exact .inl h
    ·exact .inr (.inr h)
   ·rintro (h | h | h)
    ·exact .inl (.inr h)
    ·exact .inl (.inl h)
    ·exact .inr h
theorem risingGo_le : ∀ {l out : List Int}, (risingGo l out).length <= out.length + l.length
 | [], out => by simp [risingGo]
 | x :: l, out => by
  rw [risingGo]
  have := risingGo_le (l := l) (out := if x ∈ out then out else ins x out)
  split at this
  ·rename_i hx; rw [if_pos hx]; simp only [List.length_cons]; omega
  ·rename_i hx; rw [if_neg hx]; rw [ins_len] at this; simp only [List.length_cons]; omega
theorem rising_rises (l : List Int) : Rises (rising l) := risingGo_rises (List.Pairwise.nil)
theorem mem_rising {y : Int} {l : List Int} : y ∈ rising l ↔ y ∈ l := by rw [rising, mem_risingGo]; simp
theorem rising_le (l : List Int) : (rising l).length <= l.length := by have := risingGo_le (l := l) (out := []); simpa [rising] using this
theorem Rises.ext : ∀ {a b : List Int}, Rises a -> Rises b -> (∀ y, y ∈ a ↔ y ∈ b) -> a = b
 | [], [], _, _, _ => rfl
 | [], y :: b, _, _, h => by have := (h y).2 List.mem_cons_self; cases this
 | x :: a, [], _, _, h => by have := (h x).1 List.mem_cons_self; cases this
 | x :: a, y :: b, ha, hb, h => by
  rw [Rises, List.pairwise_cons] at ha hb
  have hxy : x = y := by
   have h1 := (h x).1 List.mem_cons_self
   have h2 := (h y).2 List.mem_cons_self
   rcases List.mem_cons.1 h1 with h1 | h1
   ·exact h1
   ·rcases List.mem_cons.1 h2 with h2 | h2
    ·exact h2.symm
    ·have := ha.1 _ h2; have := hb.1 _ h1; omega
  subst hxy
  congr 1
  refine Rises.ext ha.2 hb.2 fun z => ?_
  have hz := h z
  simp only [List.mem_cons] at hz
  constructor
  ·intro hm
   rcases hz.1 (.inr hm) with rfl | h'
   ·have := ha.1 _ hm; omega
   ·exact h'
  ·intro hm
   rcases hz.2 (.inr hm) with rfl | h'
   ·have := hb.1 _ hm; omega
   ·exact h'
theorem rd_at {α : Type} [Inhabited α] {a z : List α} {v : α} {k : Int} (hk : k = (a.length : Int)) : rd (a ++ v :: z) k.toNat = v := by
 subst hk
 rw [Int.toNat_natCast, rd, List.getD_eq_getElem?_getD, List.getElem?_append_right (Nat.le_refl _), Nat.sub_self]; rfl
theorem rise_lp {l : List Int} {i x : Int} (hi0 : 0 <= i) (hi : i < (l.length : Int)) (hx : rd l i.toNat = x) : ∀ (m : Nat) (pre : List Int), pre.length = m -> m <= 1099511627776 -> Rises pre -> ∀ (z : Int) (suf : List Int), ∃ z' : Int,
  ∀ (Kx : Nat -> List Int -> Int -> Int -> List Int -> Prop), (Ev (fun n => Z83.l8 n l i (pre.length : Int) (pre ++ z :: suf) (Kx n)) ↔
   Ev (fun n => Kx n l i ((pre.filter (fun y => decide (y <= x))).length : Int) (pre.filter (fun y => decide (y <= x)) ++ z' :: (pre.filter (fun y => decide (x < y)) ++ suf))))
 | 0, pre, hm, _, hp, z, suf => by
  have : pre = [] := List.eq_nil_of_length_eq_zero hm
  subst this
  refine ⟨z, fun Kx => ?_⟩
  refine Ev.suc.trans ?_
  simp (disch := (simp only [List.length_nil]; omega)) only [Z83.l8, Z83.l8.b, if_neg, decide_eq_true_eq, Ev.s4 Kx]
  simp
 | m + 1, pre, hm, hb, hp, z, suf => by
  obtain ⟨p, y, rfl⟩ : ∃ p y, pre = p ++ [y] := ⟨pre.dropLast, pre.getLast (by rintro rfl; simp at hm), (List.dropLast_concat_getLast _).symm⟩
  have hpl : p.length = m := by simpa using hm
  have hpp : Rises p := (List.pairwise_append.1 hp).1
  have hall : ∀ a ∈ p, a < y := fun a ha => (List.pairwise_append.1 hp).2.2 a ha y (by simp)
  have e1 : IntKind.wrap .i64 (((p ++ [y]).length : Int) - 1) = (p.length : Int) := by simp only [List.length_append, List.length_cons, List.length_nil]; rw [wrap64 (by omega) (by omega)]; omega
  have e2 : (p ++ [y]) ++ z :: suf = p ++ y :: (z :: suf) := by simp
  have e3 : rd ((p ++ [y]) ++ z :: suf) (p.length : Int).toNat = y := by rw [e2]; exact rd_at rfl
  have e4 : (((p ++ [y]) ++ z :: suf).length : Int) = (p.length : Int) + 1 + 1 + (suf.length : Int) := by simp; omega
  have hpos : ((p ++ [y]).length : Int) > 0 := by simp only [List.length_append, List.length_cons, List.length_nil]; omega
  by_cases h : y > x
  ·obtain ⟨z', k⟩ := rise_lp hi0 hi hx m p hpl (by omega) hpp y (y :: suf)
   refine ⟨z', fun Kx => ?_⟩
   have f1 : (p ++ [y]).filter (fun y => decide (y <= x)) = p.filter (fun y => decide (y <= x)) := by
    have : ¬ y <= x := by omega
    simp [List.filter_append, this]
   have f2 : (p ++ [y]).filter (fun y => decide (x < y)) = p.filter (fun y => decide (x < y)) ++ [y] := by
    have : x < y := by omega
    simp [List.filter_append, this]
   have es : List.set ((p ++ [y]) ++ z :: suf) ((p ++ [y]).length : Int).toNat y = p ++ y :: (y :: suf) := by
    rw [Int.toNat_natCast, List.set_append_right _ _ (Nat.le_refl _), Nat.sub_self, List.set_cons_zero]; simp
   rw [f1, f2]
   refine Ev.suc.trans ?_
   simp (disch := (simp only [List.length_append, List.length_cons, List.length_nil] at *; omega)) only [Z83.l8, Z83.l8.b, Z83.j1, if_pos, decide_eq_true_eq, Ev.iteI, e1, e3, e4, hx, grd_dec2, es]
   rw [k, Ev.s4 Kx]
   simp
  ·have f1 : (p ++ [y]).filter (fun y => decide (y <= x)) = p ++ [y] := by
    rw [List.filter_eq_self]
    intro a ha
    rcases List.mem_append.1 ha with ha | ha
    ·have := hall a ha; rw [decide_eq_true_eq]; omega
    ·rw [List.mem_singleton] at ha; subst ha; rw [decide_eq_true_eq]; omega
   have f2 : (p ++ [y]).filter (fun y => decide (x < y)) = [] := by
    rw [List.filter_eq_nil_iff]
    intro a ha
    rcases List.mem_append.1 ha with ha | ha
    ·have := hall a ha; rw [decide_eq_true_eq]; omega
    ·rw [List.mem_singleton] at ha; subst ha; rw [decide_eq_true_eq]; omega
   refine ⟨z, fun Kx => ?_⟩
   rw [f1, f2, List.nil_append]
   refine Ev.suc.trans ?_
   simp (disch := (simp only [List.length_append, List.length_cons, List.length_nil] at *; omega)) only [Z83.l8, Z83.l8.b, if_pos, if_neg, decide_eq_true_eq, Ev.iteI, e1, e3, e4, hx, grd_dec2, Ev.s4 Kx]
theorem rising_lp {l : List Int} (hl : l.length <= 1048576) : ∀ (ys : List Int) (x : Int) (out : List Int), l.drop x.toNat = ys -> 0 <= x -> Rises out -> out.length + ys.length <= 1048576 -> ∀ (Kx : Nat -> List Int -> Prop),
  (Ev (fun n => Z83.l3 n l x out (Kx n)) ↔ Ev (fun n => Kx n (risingGo ys out)))
 | [], x, out, h, h0, ho, hb, Kx => by
  have := drop_nil h h0
  refine Ev.suc.trans ?_
  simp (disch := omega) only [Z83.l3, Z83.l3.b, if_neg, decide_eq_true_eq, Ev.s1 Kx, risingGo]
 | y :: ys, x, out, h, h0, ho, hb, Kx => by
  obtain ⟨e1, e2, e3⟩ := drop_cons h h0
  rw [List.length_cons] at hb
  rw [risingGo]
  refine Ev.suc.trans ?_
  simp (disch := omega) only [Z83.l3, Z83.l3.b, if_pos, decide_eq_true_eq, grd_dec2, e2, wrap64, has_ev, Ev.iteI]
  by_cases hy : y ∈ out
  ·rw [if_pos hy, if_pos hy, rising_lp hl ys (x + 1) out e3 (by omega) ho (by omega), Ev.s1 Kx]
  ·rw [if_neg hy, if_neg hy]
   obtain ⟨z', k⟩ := rise_lp h0 e1 e2 out.length out rfl (by omega) ho y []
   have hf := filter_two y out
   have hins : List.set (out.filter (fun w => decide (w <= y)) ++ z' :: (out.filter (fun w => decide (y < w)) ++ [])) ((out.filter (fun w => decide (w <= y))).length : Int).toNat y = ins y out := by
    rw [Int.toNat_natCast, List.set_append_right _ _ (Nat.le_refl _), Nat.sub_self, List.set_cons_zero, List.append_nil]; rfl
   simp (disch := first | omega | (simp only [List.length_append, List.length_cons, List.length_nil]; omega)) only [grd_dec, k, grd_dec2, e2, hins, wrap64]
   rw [rising_lp hl ys (x + 1) _ e3 (by omega) (ins_rises ho hy) (by rw [ins_len]; omega), Ev.s1 Kx]
theorem rising_ev {l : List Int} (hl : l.length <= 1048576) (R : Nat -> List Int -> Prop) :
  Ev (fun n => Z83.c n l (R n)) ↔ Ev (fun n => R n (rising l)) := by
 refine Ev.suc.trans ?_
 simp only [Z83.c, Z83.w]
 rw [rising_lp hl l 0 [] rfl (by omega) List.Pairwise.nil (by simpa using hl), Ev.s1 R]; rfl
end Go.Vsi
end

section
set_option linter.unusedVariables false
set_option linter.unusedSimpArgs false
set_option synthInstance.maxSize 4096
namespace Go.Vsi
def cmp1 (p : Int) : List Int -> List Int
 | [] => []
 | y :: r => if y = p then cmp1 p r else y :: cmp1 y r
def compactL : List Int -> List Int
 | [] => []
 | a :: r => a :: cmp1 a r
theorem mem_cmp1 {z : Int} : ∀ {l : List Int} {p : Int}, z ∈ p :: cmp1 p l ↔ z ∈ p :: l
 | [], _ => Iff.rfl
 | y :: r, p => by
  unfold cmp1
  split
  ·rename_i h
   subst h
   rw [mem_cmp1]; simp
  ·have := mem_cmp1 (z := z) (l := r) (p := y)
   rw [List.mem_cons, this, <- List.mem_cons]
theorem cmp1_rises : ∀ {l : List Int} {p : Int}, (p :: l).Pairwise (· <= ·) -> Rises (p :: cmp1 p l)
 | [], p, _ => by simp [Rises, cmp1]
 | y :: r, p, h => by
  rw [List.pairwise_cons] at h
  have hy := List.pairwise_cons.1 h.2
  unfold cmp1
  split
  ·rename_i e
   subst e
   exact cmp1_rises h.2
  ·rename_i e
   have ih := cmp1_rises h.2
   unfold Rises at ih ⊢
   rw [List.pairwise_cons]
   refine ⟨fun z hz => ?_, ih⟩
   have h1 := h.1 y List.mem_cons_self
   rw [mem_cmp1] at hz
   rcases List.mem_cons.1 hz with rfl | hz
   ·omega
   ·have := hy.1 z hz; omega
theorem mem_compact {z : Int} : ∀ {l : List Int}, z ∈ compactL l ↔ z ∈ l
 | [] => Iff.rfl
 | a :: l => mem_cmp1
theorem compact_rises : ∀ {l : List Int}, l.Pairwise (· <= ·) -> Rises (compactL l)
 | [], _ => List.Pairwise.nil
 | a :: l, h => cmp1_rises h
theorem srt_len (l : List Int) : (srt l).length = l.length := by simp [srt]
theorem mem_srt {z : Int} {l : List Int} : z ∈ srt l ↔ z ∈ l := by simp [srt]
theorem srt_sorted (l : List Int) : (srt l).Pairwise (· <= ·) := by
 have := List.pairwise_mergeSort (le := fun x y : Int => decide (x <= y)) (fun a b c h1 h2 => by simp at *; omega) (fun a b => by simp; omega) l
 exact this.imp fun h => by simpa using h
theorem sorted_once {l l' : List Int} (h : Rises l') (hm : ∀ z, z ∈ l' ↔ z ∈ l) : compactL (srt l) = l' :=
 Rises.ext (compact_rises (srt_sorted l)) h fun z => by rw [mem_compact, mem_srt, hm]
theorem sort_ev {l : List Int} (hl : l.length <= 1099511627776) (R : Nat -> List Int -> Prop) : Ev (fun n => Z64.c n l (R n)) ↔ Ev (fun n => R n (srt l)) := by
 refine Ev.suc.trans ?_
 simp (disch := omega) only [Z64.c, Z64.w, grd_dec, Ev.s1 R]
theorem compact2_lp {s : List Int} (hs : s.length <= 1099511627776) {lo : Nat} : ∀ (ys : List Int) (k2 k : Nat) (row : List Int), s.drop (lo + k2) = ys -> 1 <= k2 -> row.length = s.length -> (∀ i, lo + k2 - 1 <= i -> rd row i = rd s i) -> k <= lo + k2 - 1 -> lo + k2 <= s.length ->
  ∀ Kx : Nat -> Int -> List Int -> Prop, (∀ (k' : Nat) (row' : List Int), row'.length = s.length -> k' <= s.length -> row'.take k' = row.take k ++ cmp1 (rd s (lo + k2 - 1)) ys -> Ev (fun n => Kx n k' row')) ->
  Ev (fun n => Z57.l9 n lo s.length k k2 row (Kx n))
 | [], k2, k, row, h, h1, hl, he, hk, hb, Kx, hx => by
  have := List.drop_eq_nil_iff.1 h
  refine Ev.succ ?_
  simp only [Z57.l9, Z57.l9.b]
  refine Ev.neg (by simp; omega) (hx k row hl (by omega) ?_).shift
  rw [cmp1, List.append_nil]
 | y :: ys, k2, k, row, h, h1, hl, he, hk, hb, Kx, hx => by
  obtain ⟨c1, c2, c3⟩ := drop_cons (x := ((lo + k2 : Nat) : Int)) (by rw [Int.toNat_natCast]; exact h) (by omega)
  rw [Int.toNat_natCast] at c2
  have c3' : s.drop (lo + (k2 + 1)) = ys := by rw [show (((lo + k2 : Nat) : Int) + 1).toNat = lo + (k2 + 1) from by omega] at c3; exact c3
  have r1 := he (lo + k2) (by omega)
  have r2 := he (lo + k2 - 1) (by omega)
  refine Ev.succ ?_
  simp only [Z57.l9, Z57.l9.b]
  rw [wrap64 (x := (k2 : Int) - 1) (by omega) (by omega), wrap64 (x := (k2 : Int) + 1) (by omega) (by omega), wrap64 (x := (k : Int) + 1) (by omega) (by omega)]
  rw [show lo + ((k2 : Int) - 1).toNat = lo + k2 - 1 from by omega, Int.toNat_natCast, Int.toNat_natCast, r1, r2, c2]
  have e2 : (k2 : Int) + 1 = ((k2 + 1 : Nat) : Int) := by omega
  have e1 : (k : Int) + 1 = ((k + 1 : Nat) : Int) := by omega
  rw [e1, e2]
  refine Ev.pos (by simp; omega) (Ev.grd (by simp; omega) (Ev.grd (by simp; omega) ?_))
  by_cases hy : y = rd s (lo + k2 - 1)
  ·refine Ev.neg (by simpa using hy) ?_
   have ep : rd s (lo + (k2 + 1) - 1) = rd s (lo + k2 - 1) := by rw [show lo + (k2 + 1) - 1 = lo + k2 from by omega, c2, hy]
   refine compact2_lp hs ys (k2 + 1) k row c3' (by omega) hl (fun i hi => he i (by omega)) (by omega) (by omega) (fun n => Kx (n + 1)) fun k' row' g1 g2 g3 => (hx k' row' g1 g2 ?_).shift
   rw [g3, ep, cmp1, if_pos hy]
  ·refine Ev.pos (by simpa using hy) (Ev.grd (by simp; omega) (Ev.grd (by simp; omega) ?_))
   have ep : rd s (lo + (k2 + 1) - 1) = y := by rw [show lo + (k2 + 1) - 1 = lo + k2 from by omega, c2]
   refine compact2_lp hs ys (k2 + 1) (k + 1) (row.set k y) c3' (by omega) (by rw [List.length_set]; exact hl) (fun i hi => ?_) (by omega) (by omega) (fun n => Kx (n + 1)) fun k' row' g1 g2 g3 => (hx k' row' g1 g2 ?_).shift
   ·rw [<- he i (by omega)]
    simp only [rd, List.getD_eq_getElem?_getD, List.getElem?_set]
    rw [if_neg (by omega)]
   ·rw [g3, ep, cmp1, if_neg hy]
    have := take_set (l := row) (x := (k : Int)) (v := y) (by omega) (by omega)
    rw [show ((k : Int) + 1).toNat = k + 1 from by omega, Int.toNat_natCast] at this
    rw [this, List.append_assoc]; rfl
theorem compact_lp {s : List Int} (hs : s.length <= 1099511627776) : ∀ (ys : List Int) (k : Nat), s.drop k = ys -> 1 <= k -> k <= s.length -> compactL s = s.take k ++ cmp1 (rd s (k - 1)) ys -> ∀ (Kx : Nat -> List Int -> Prop) (Kr : Nat -> Nat -> Nat -> List Int -> Prop),
  (compactL s = s -> Ev (fun n => Kx n s)) -> (∀ a (k : Nat) (row : List Int), row.take k = compactL s -> Ev (fun n => Kr n a k row)) ->
  Ev (fun n => Z57.l4 n s k (Kx n) (Kr n))
 | [], k, h, h1, hk, hc, Kx, Kr, hx, hr => by
  have := List.drop_eq_nil_iff.1 h
  refine Ev.succ ?_
  simp only [Z57.l4, Z57.l4.b]
  refine Ev.neg (by simp; omega) (hx ?_).shift
  rw [hc, cmp1, List.append_nil, List.take_of_length_le (by omega)]
 | y :: ys, k, h, h1, hk, hc, Kx, Kr, hx, hr => by
  obtain ⟨c1, c2, c3⟩ := drop_cons (x := (k : Int)) (by rw [Int.toNat_natCast]; exact h) (by omega)
  rw [Int.toNat_natCast] at c2
  have c3' : s.drop (k + 1) = ys := by rw [show ((k : Int) + 1).toNat = k + 1 from by omega] at c3; exact c3
  refine Ev.succ ?_
  simp only [Z57.l4, Z57.l4.b]
  rw [wrap64 (x := (k : Int) - 1) (by omega) (by omega), wrap64 (x := (k : Int) + 1) (by omega) (by omega)]
  rw [show ((k : Int) - 1).toNat = k - 1 from by omega, Int.toNat_natCast, Int.toNat_natCast, c2]
  refine Ev.pos (by simp; omega) (Ev.grd (by simp; omega) (Ev.grd (by simp; omega) ?_))
  by_cases hy : y = rd s (k - 1)
  ·refine Ev.pos (by simpa using hy) (Ev.grd (by simp; omega) ?_)
   have ep : rd s (k + 1 - 1) = rd s (k - 1) := by rw [show k + 1 - 1 = k from by omega, c2, hy]
   have := compact2_lp hs (lo := k) ys 1 k s c3' (by omega) rfl (fun _ _ => rfl) (by omega) (by omega) (fun n y65 y66 => grd ((decide (0 <= y65) && true) && decide (y65 <= (y66.length : Int))) (let t67 : List Int := List.take (Int.toNat y65) y66 ++ List.replicate ((Int.toNat (y66.length : Int)) - (Int.toNat y65)) 0 ++ List.drop (Int.toNat (y66.length : Int)) y66; grd ((decide (0 <= y65) && decide (y65 <= (t67.length : Int))) && decide (0 <= y65)) (Kr (n + 1) 0 (Int.toNat y65) t67))) fun k' row' g1 g2 g3 => ?_
   ·exact this
   ·rw [Int.toNat_natCast, Int.toNat_natCast]
    refine Ev.grd (by simp; omega) (Ev.grd (by simp; omega) (hr 0 k' _ ?_).shift)
    rw [List.append_assoc, List.take_left' (by rw [List.length_take]; omega), g3, ep, hc, cmp1, if_pos hy]
  ·refine Ev.neg (by simpa using hy) ?_
   have e1 : (k : Int) + 1 = ((k + 1 : Nat) : Int) := by omega
   rw [e1]
   refine compact_lp hs ys (k + 1) c3' (by omega) (by omega) ?_ (fun n => Kx (n + 1)) (fun n => Kr (n + 1)) (fun e => (hx e).shift) (fun a k row e => (hr a k row e).shift)
   rw [hc, cmp1, if_neg hy, show k + 1 - 1 = k from by omega, c2, List.take_succ_eq_append_getElem (by omega), List.append_assoc]
   have : s[k]'(by omega) = y := by rw [<- c2, rd, List.getD_eq_getElem?_getD, List.getElem?_eq_getElem (by omega)]; rfl
   rw [this]; rfl
theorem compact_wp {s : List Int} (hs : s.length <= 1099511627776) (R : Nat -> List Int -> Prop) (hR : Ev fun n => R n (compactL s)) : Ev (fun n => Z57.c n s (R n)) := by
 refine Ev.succ ?_
 simp only [Z57.c, Z57.w]
 by_cases h : s.length < 2
 ·refine Ev.pos (by simp; omega) ?_
  have : compactL s = s := by
   match s, h with
   | [], _ => rfl
   | [a], _ => rfl
  rw [this] at hR; exact hR.shift
 ·refine Ev.neg (by simp; omega) ?_
  refine compact_lp hs (s.drop 1) 1 rfl (by omega) (by omega) ?_ (fun n => R (n + 1)) (fun n y73 y74 y75 => R (n + 1) (List.take y74 y75)) (fun e => by rw [e] at hR; exact hR.shift) (fun a k row e => by rw [e]; exact hR.shift)
  match s, h with
  | a :: b, _ => rfl
end Go.Vsi
end

section
set_option linter.unusedVariables false
set_option linter.unusedSimpArgs false
set_option synthInstance.maxSize 4096
namespace Go.Vsi
def hasV (t : List tTNode) (v : Int) : Bool := t.any fun x => decide (x.1 = 1) && decide (x.2.1 = v)
def varsUp (t : List tTNode) : Nat -> Int -> List Int
 | 0, _ => []
 | m + 1, v => if hasV t v = true then v :: varsUp t m (v + 1) else varsUp t m (v + 1)
def vsT : List tTNode -> List Int
 | [] => []
 | x :: r => if x.1 = 1 then x.2.1 :: vsT r else vsT r
def varsP (d : List tDecl) (t : List tTNode) : List Int := varsUp t d.length 0
def varsOf (d : List tDecl) (t : List tTNode) : List Int := if widthOf d t < 0 then [] else varsP d t
theorem mem_varsUp {t : List tTNode} {z : Int} : ∀ {m : Nat} {v : Int}, z ∈ varsUp t m v ↔ v <= z /\ z < v + m /\ hasV t z = true
 | 0, v => by simp [varsUp]; omega
 | m + 1, v => by
  have ih := mem_varsUp (t := t) (z := z) (m := m) (v := v + 1)
  unfold varsUp
  by_cases h : hasV t v = true
  ·rw [if_pos h, List.mem_cons, ih]
   constructor
   ·rintro (rfl | ⟨h1, h2, h3⟩)
    ·exact ⟨by omega, by omega, h⟩
    ·exact ⟨by omega, by omega, h3⟩
   ·rintro ⟨h1, h2, h3⟩
    by_cases e : z = v
    ·exact .inl e
    ·exact .inr ⟨by omega, by omega, h3⟩
  ·rw [if_neg h, ih]
   constructor
   ·rintro ⟨h1, h2, h3⟩; exact ⟨by omega, by omega, h3⟩
   ·rintro ⟨h1, h2, h3⟩
    have : z ≠ v := fun e => h (e ▸ h3)
    exact ⟨by omega, by omega, h3⟩
theorem varsUp_rises {t : List tTNode} : ∀ {m : Nat} {v : Int}, Rises (varsUp t m v)
 | 0, v => List.Pairwise.nil
 | m + 1, v => by
  have ih := varsUp_rises (t := t) (m := m) (v := v + 1)
  unfold varsUp
  split
  ·unfold Rises at ih ⊢
   rw [List.pairwise_cons]
   exact ⟨fun z hz => by have := (mem_varsUp.1 hz).1; omega, ih⟩
  ·exact ih
theorem varsUp_len {t : List tTNode} : ∀ {m : Nat} {v : Int}, (varsUp t m v).length <= m
 | 0, v => Nat.le_refl _
 | m + 1, v => by
  have := varsUp_len (t := t) (m := m) (v := v + 1)
  unfold varsUp
  split
  ·rw [List.length_cons]; omega
  ·omega
theorem mem_vsT {z : Int} : ∀ {t : List tTNode}, z ∈ vsT t ↔ hasV t z = true
 | [] => by simp [vsT, hasV]
 | x :: r => by
  have ih := mem_vsT (z := z) (t := r)
  have hc : hasV (x :: r) z = true ↔ (x.1 = 1 /\ x.2.1 = z) \/ hasV r z = true := by
   unfold hasV
   rw [List.any_cons, Bool.or_eq_true, Bool.and_eq_true, decide_eq_true_eq, decide_eq_true_eq]
  rw [hc]
  unfold vsT
  split
  ·rename_i h
   rw [List.mem_cons, ih]
   exact or_congr ⟨fun e => ⟨h, e.symm⟩, fun e => e.2.symm⟩ Iff.rfl
  ·rename_i h
   rw [ih]
   exact ⟨.inr, fun e => e.elim (fun e => absurd e.1 h) id⟩
theorem vsT_len : ∀ {t : List tTNode}, (vsT t).length <= t.length
 | [] => Nat.le_refl _
 | x :: r => by
  have := vsT_len (t := r)
  unfold vsT
  split
  ·simp only [List.length_cons]; omega
  ·simp only [List.length_cons]; omega
theorem widthsGo_vars {d : List tDecl} : ∀ {ys : List tTNode} {wide : List Int} {used : List Bool} {r : List Int × List Bool}, widthsGo d ys wide used = some r -> ∀ x ∈ ys, x.1 = 1 -> 0 <= x.2.1 /\ x.2.1 < (d.length : Int)
 | [], _, _, _, _, x, hx, _ => by cases hx
 | y :: ys, wide, used, r, h, x, hx, h1 => by
  rw [widthsGo] at h
  cases hs : stepW d y wide with
  | none => rw [hs] at h; cases h
  | some w =>
   rw [hs] at h
   rcases List.mem_cons.1 hx with rfl | hx
   ·unfold stepW at hs
    split at hs
    ·rename_i hk
     have h2 := hk.2.2
     unfold kindB at h2
     rw [decide_eq_true_eq] at h2
     omega
    ·cases hs
   ·exact widthsGo_vars h x hx h1
theorem width_vars {d : List tDecl} {t : List tTNode} (h : ¬ widthI d t < 0) : (∀ x ∈ t, x.1 = 1 -> 0 <= x.2.1 /\ x.2.1 < (d.length : Int)) /\ t.length <= 400 := by
 unfold widthI at h
 by_cases h2 : (widthsI d t).2 = true
 rotate_left
 ·rw [if_neg h2] at h; omega
 have hle := (widthsI_ok h2).2.2.2
 refine ⟨?_, hle⟩
 unfold widthsI at h2
 split at h2
 ·cases hg : widthsGo d t [] (List.replicate t.length false) with
  | none => rw [hg] at h2; cases h2
  | some r => exact widthsGo_vars hg
 ·cases h2
theorem vars_one {d : List tDecl} {t : List tTNode} (h : ¬ widthI d t < 0) : compactL (srt (vsT t)) = varsP d t := by
 refine sorted_once varsUp_rises fun z => ?_
 unfold varsP
 rw [mem_varsUp, mem_vsT]
 refine ⟨fun hz => hz.2.2, fun hz => ?_⟩
 have hz' := hz
 unfold hasV at hz'
 rw [List.any_eq_true] at hz'
 obtain ⟨x, hx, e⟩ := hz'
 rw [Bool.and_eq_true, decide_eq_true_eq, decide_eq_true_eq] at e
 have := (width_vars h).1 x hx e.1
 rw [e.2] at this
 exact ⟨by omega, by omega, hz⟩
theorem vsI_lp {t : List tTNode} (ht : t.length <= 1048576) : ∀ (ys : List tTNode) (x : Int) (o : List Int), t.drop x.toNat = ys -> 0 <= x -> o.length + ys.length <= 1048576 -> ∀ (Kx : Nat -> List Int -> Prop),
  Ev (fun n => Kx n (o ++ vsT ys)) -> Ev (fun n => Z15.l3 n t t.length x o (Kx n))
 | [], x, o, h, h0, ho, Kx, hx => by
  have := drop_nil h h0
  refine Ev.succ ?_
  simp only [Z15.l3, Z15.l3.b]
  rw [vsT, List.append_nil] at hx
  exact Ev.neg (by simp; omega) hx.shift
 | y :: ys, x, o, h, h0, ho, Kx, hx => by
  obtain ⟨e1, e2, e3⟩ := drop_cons h h0
  rw [List.length_cons] at ho
  refine Ev.succ ?_
  simp only [Z15.l3, Z15.l3.b]
  rw [e2, wrap64 (x := x + 1) (by omega) (by omega)]
  unfold vsT at hx
  refine Ev.pos (by simp; omega) (Ev.grd (by simp; omega) ?_)
  by_cases h1 : y.1 = 1
  ·rw [if_pos h1] at hx
   refine Ev.pos (by simpa using h1) (Ev.grd (by simp; omega) (vsI_lp ht ys (x + 1) (o ++ [y.2.1]) e3 (by omega) (by simp; omega) (fun n => Kx (n + 1)) ?_))
   rw [List.append_assoc]; exact hx.shift
  ·rw [if_neg h1] at hx
   exact Ev.neg (by simpa using h1) (vsI_lp ht ys (x + 1) o e3 (by omega) (by omega) (fun n => Kx (n + 1)) hx.shift)
theorem vsI_wp {t : List tTNode} (ht : t.length <= 1048576) (R : Nat -> List Int -> Prop) (hR : Ev fun n => R n (compactL (srt (vsT t)))) : Ev (fun n => Z15.c n t (R n)) := by
 have hv := vsT_len (t := t)
 refine Ev.succ ?_
 simp only [Z15.c, Z15.w]
 refine vsI_lp ht t 0 [] rfl (by omega) (by simp; omega) (fun n y19 => _) ?_
 rw [List.nil_append, sort_ev (by omega)]
 exact compact_wp (by rw [srt_len]; omega) _ hR.shift
theorem varS_lp {d : List tDecl} {v : Int} {o : List Int} (ho : o.length <= 1048576) {t : List tTNode} (ht : t.length <= 1048576) : ∀ (ys : List tTNode) (x : Int), t.drop x.toNat = ys -> 0 <= x -> ∀ Kx : Nat -> List tDecl -> Int -> List Int -> List tTNode -> Prop,
  Ev (fun n => Kx n d v (if hasV ys v = true then o ++ [v] else o) t) -> Ev (fun n => Z69.l8 n d v o t x (Kx n))
 | [], x, h, h0, Kx, hx => by
  have := drop_nil h h0
  refine Ev.succ ?_
  simp only [Z69.l8, Z69.l8.b]
  exact Ev.neg (by simp; omega) hx.shift
 | y :: ys, x, h, h0, Kx, hx => by
  obtain ⟨e1, e2, e3⟩ := drop_cons h h0
  have ih := varS_lp ho ht ys (x + 1) e3 (by omega) (fun n => Kx (n + 1)) (d := d) (v := v) (o := o)
  refine Ev.succ ?_
  simp only [Z69.l8, Z69.l8.b, Z69.j1]
  rw [e2, wrap64 (x := x + 1) (by omega) (by omega)]
  simp only [hasV, List.any_cons] at hx
  refine Ev.pos (by simp; omega) (Ev.grd (by simp; omega) ?_)
  by_cases h1 : y.1 = 1
  ·refine Ev.pos (by simpa using h1) (Ev.grd (by simp; omega) ?_)
   by_cases h2 : y.2.1 = v
   ·refine Ev.pos (by simpa using h2) (Ev.grd (by simp; omega) ?_)
    simp only [h1, h2, decide_true, Bool.and_self, Bool.true_or, if_true] at hx
    exact hx.shift
   ·refine Ev.neg (by simpa using h2) (ih ?_)
    simp only [h1, h2, decide_true, decide_false, Bool.and_false, Bool.false_or] at hx
    exact hx.shift
  ·refine Ev.neg (by simpa using h1) (Ev.neg (by simp) (ih ?_))
   simp only [h1, decide_false, Bool.false_and, Bool.false_or] at hx
   exact hx.shift
theorem varsS_lp {d : List tDecl} (hd : d.length <= 1048576) {t : List tTNode} (ht : t.length <= 1048576) : ∀ (m : Nat) (v : Int) (o : List Int), v + m = d.length -> 0 <= v -> o.length <= v -> ∀ Kx : Nat -> List Int -> Prop,
  Ev (fun n => Kx n (o ++ varsUp t m v)) -> Ev (fun n => Z69.l5 n d v o t (Kx n))
 | 0, v, o, h, h0, ho, Kx, hx => by
  refine Ev.succ ?_
  simp only [Z69.l5, Z69.l5.b]
  rw [varsUp, List.append_nil] at hx
  exact Ev.neg (by simp; omega) hx.shift
 | m + 1, v, o, h, h0, ho, Kx, hx => by
  refine Ev.succ ?_
  simp only [Z69.l5, Z69.l5.b]
  refine Ev.pos (by simp; omega) (varS_lp (by omega) ht t 0 rfl (by omega) (fun n y47 y48 y49 y50 => _) ?_)
  rw [wrap64 (x := v + 1) (by omega) (by omega)]
  unfold varsUp at hx
  by_cases hv : hasV t v = true
  ·rw [if_pos hv] at hx ⊢
   refine varsS_lp hd ht m (v + 1) (o ++ [v]) (by omega) (by omega) (by simp; omega) (fun n => Kx (n + 1)) ?_
   rw [List.append_assoc]; exact hx.shift
  ·rw [if_neg hv] at hx ⊢
   exact varsS_lp hd ht m (v + 1) o (by omega) (by omega) (by omega) (fun n => Kx (n + 1)) hx.shift
theorem varsS_wp {d : List tDecl} {t : List tTNode} (hd : d.length <= 1048576) (hg : ∀ x : tTNode, x ∈ t -> Wd x.2.2.2.2.2.1 /\ x.2.2.2.2.2.2.length <= 1099511627776) (R : Nat -> List Int -> Prop) (hR : Ev fun n => R n (varsOf d t)) : Ev (fun n => Z69.c n d t (R n)) := by
 refine Ev.succ ?_
 simp only [Z69.c, Z69.w]
 rw [widthOfS_ev (by omega) hg]
 unfold varsOf at hR
 by_cases h : widthOf d t < 0
 ·rw [if_pos h] at hR
  exact Ev.pos (by simpa using h) hR.shift
 ·rw [if_neg h] at hR
  have hi : ¬ widthI d t < 0 := by
   unfold widthOf at h
   split at h
   ·exact h
   ·omega
  have hl := (width_vars hi).2
  refine Ev.neg (by simpa using h) (varsS_lp hd (by omega) d.length 0 [] (by omega) (by omega) (by simp) (fun n y52 => R (n + 1) y52) ?_)
  rw [List.nil_append]; exact hR.shift
end Go.Vsi
end

section
set_option linter.unusedVariables false
set_option linter.unusedSimpArgs false
set_option synthInstance.maxSize 4096
namespace Go.Vsi
def atId (l : List tLiteral) (id : Int) : Int := firstIx (fun y => decide (y.1 = id)) l 0
def notUp (p : Option Int) (id : Int) : Bool := match p with
 | some q => decide (id <= q)
 | none => false
def chP (l : List tLiteral) : Option Int -> List Int -> List tLiteral -> Option (List tLiteral)
 | _, [], out => some out
 | p, id :: r, out => if atId l id < 0 \/ notUp p id = true then none else chP l (some id) r (out ++ [rd l (atId l id).toNat])
def vI (d : List tDecl) (y : tLiteral) : List Int := rising (varsP d y.2.2.1 ++ varsP d y.2.2.2)
def touchGo (d : List tDecl) : List tLiteral -> List Int -> List Int
 | [], o => o
 | y :: r, o => touchGo d r (o ++ vI d y)
def touchP (d : List tDecl) (l : List tLiteral) (ids : List Int) : List Int × Bool :=
 if litsOk d l = true then (match chP l none ids [] with
  | some o => (rising (touchGo d o []), true)
  | none => ([], false)) else ([], false)
theorem firstIx_at {α : Type} [Inhabited α] {p : α -> Bool} : ∀ {l : List α} {x : Int}, 0 <= x -> ¬ firstIx p l x < 0 -> x <= firstIx p l x /\ firstIx p l x < x + l.length /\ p (rd l (firstIx p l x - x).toNat) = true
 | [], x, h0, h => by simp [firstIx] at h
 | y :: l, x, h0, h => by
  rw [firstIx] at h ⊢
  by_cases hp : p y = true
  ·rw [if_pos hp] at h ⊢
   refine ⟨Int.le_refl _, by simp; omega, ?_⟩
   have : rd (y :: l) (x - x).toNat = y := by simp [rd]
   rw [this]; exact hp
  ·rw [if_neg hp] at h ⊢
   obtain ⟨h1, h2, h3⟩ := firstIx_at (l := l) (x := x + 1) (by omega) h
   refine ⟨by omega, by simp; omega, ?_⟩
   have : rd (y :: l) (firstIx p l (x + 1) - x).toNat = rd l (firstIx p l (x + 1) - (x + 1)).toNat := by
    rw [show (firstIx p l (x + 1) - x).toNat = (firstIx p l (x + 1) - (x + 1)).toNat + 1 from by omega]; rfl
   rw [this]; exact h3
theorem firstIx_filter {p : tLiteral -> Bool} : ∀ {l : List tLiteral} {x : Int}, 0 <= x -> l.Pairwise (fun a b => ¬ (p a = true /\ p b = true)) -> l.filter p = if firstIx p l x < 0 then [] else [rd l (firstIx p l x - x).toNat]
 | [], x, _, _ => by simp [firstIx]
 | y :: l, x, h0, h => by
  rw [List.pairwise_cons] at h
  rw [firstIx, List.filter_cons]
  by_cases hp : p y = true
  ·rw [if_pos hp, if_pos hp, if_neg (by omega)]
   have e1 : rd (y :: l) (x - x).toNat = y := by simp [rd]
   rw [e1]
   have : l.filter p = [] := by
    rw [List.filter_eq_nil_iff]
    intro z hz hpz; exact h.1 z hz ⟨hp, hpz⟩
   rw [this]
  ·rw [if_neg hp, if_neg hp, firstIx_filter (x := x + 1) (by omega) h.2]
   by_cases hn : firstIx p l (x + 1) < 0
   ·rw [if_pos hn, if_pos hn]
   ·rw [if_neg hn, if_neg hn]
    have := (firstIx_at (p := p) (l := l) (x := x + 1) (by omega) hn).1
    rw [show (firstIx p l (x + 1) - x).toNat = (firstIx p l (x + 1) - (x + 1)).toNat + 1 from by omega]; rfl
theorem rd_memY {α : Type} [Inhabited α] {l : List α} {i : Nat} (h : i < l.length) : rd l i ∈ l := by
 rw [rd, List.getD_eq_getElem?_getD, List.getElem?_eq_getElem h]; exact List.getElem_mem _
theorem atId_ok {l : List tLiteral} {id : Int} (h : ¬ atId l id < 0) : 0 <= atId l id /\ atId l id < (l.length : Int) /\ rd l (atId l id).toNat ∈ l /\ (rd l (atId l id).toNat).1 = id := by
 obtain ⟨h1, h2, h3⟩ := firstIx_at (p := fun y : tLiteral => decide (y.1 = id)) (l := l) (x := 0) (by omega) h
 have h2' : atId l id < (l.length : Int) := by have : atId l id < 0 + (l.length : Int) := h2; omega
 rw [Int.sub_zero] at h3
 exact ⟨h1, h2', rd_memY (by have : 0 <= atId l id := h1; omega), of_decide_eq_true h3⟩
theorem nodup_leY {α : Type} [DecidableEq α] : ∀ {a b : List α}, a.Nodup -> (∀ x ∈ a, x ∈ b) -> a.length <= b.length
 | [], b, _, _ => by simp
 | x :: a, b, hn, h => by
  rw [List.nodup_cons] at hn
  have hx := h x List.mem_cons_self
  have ih := nodup_leY (a := a) (b := b.erase x) hn.2 fun y hy => by
   have hne : y ≠ x := by rintro rfl; exact hn.1 hy
   exact (List.mem_erase_of_ne hne).2 (h y (List.mem_cons_of_mem _ hy))
  rw [List.length_erase_of_mem hx] at ih
  have := List.length_pos_of_mem hx
  rw [List.length_cons]; omega
theorem chP_ok {l : List tLiteral} : ∀ {ys : List Int} {p : Option Int} {out o : List tLiteral}, chP l p ys out = some o ->
  o.length = out.length + ys.length /\ Rises ys /\ (∀ q, p = some q -> ∀ id ∈ ys, q < id) /\ (∀ id ∈ ys, id ∈ l.map (·.1)) /\ ∀ y ∈ o, y ∈ out \/ y ∈ l
 | [], p, out, o, h => by
  simp only [chP, Option.some.injEq] at h; subst h
  exact ⟨by simp, List.Pairwise.nil, fun q _ z hz => absurd hz (by simp), fun z hz => absurd hz (by simp), fun y hy => Or.inl hy⟩
 | id :: r, p, out, o, h => by
  unfold chP at h
  split at h
  ·cases h
  ·rename_i hc
   rw [not_or] at hc
   obtain ⟨a1, a2, a3, a4⟩ := atId_ok hc.1
   obtain ⟨g1, g2, g3, g4, g5⟩ := chP_ok h
   refine ⟨by rw [g1]; simp; omega, ?_, fun q hq z hz => ?_, fun z hz => ?_, fun y hy => ?_⟩
   ·unfold Rises; rw [List.pairwise_cons]; exact ⟨fun z hz => g3 id rfl z hz, g2⟩
   ·have hq' : q < id := by
     have := hc.2
     rw [hq] at this
     simpa [notUp] using this
    rcases List.mem_cons.1 hz with rfl | hz
    ·exact hq'
    ·have := g3 id rfl z hz; omega
   ·rcases List.mem_cons.1 hz with rfl | hz
    ·exact List.mem_map.2 ⟨_, a3, a4⟩
    ·exact g4 z hz
   ·rcases g5 y hy with hy | hy
    ·rcases List.mem_append.1 hy with hy | hy
     ·exact .inl hy
     ·rw [List.mem_singleton.1 hy]; exact .inr a3
    ·exact .inr hy
theorem chP_le {l o : List tLiteral} {ids : List Int} (h : chP l none ids [] = some o) : o.length <= l.length /\ ∀ y ∈ o, y ∈ l := by
 obtain ⟨g1, g2, g3, g4, g5⟩ := chP_ok h
 have : ids.length <= (l.map (·.1)).length := nodup_leY (g2.imp fun h e => by omega) g4
 rw [List.length_map] at this
 exact ⟨by simp at g1; omega, fun y hy => (g5 y hy).elim (fun h => by cases h) id⟩
theorem vI_len {d : List tDecl} {y : tLiteral} : (vI d y).length <= 2 * d.length := by
 have h1 := rising_le (varsP d y.2.2.1 ++ varsP d y.2.2.2)
 have h2 : (varsP d y.2.2.1).length <= d.length := varsUp_len
 have h3 : (varsP d y.2.2.2).length <= d.length := varsUp_len
 unfold vI; rw [List.length_append] at h1; omega
theorem touchGo_len {d : List tDecl} : ∀ {o : List tLiteral} {a : List Int}, (touchGo d o a).length <= a.length + 2 * d.length * o.length
 | [], a => by simp [touchGo]
 | y :: r, a => by
  have h1 := touchGo_len (d := d) (o := r) (a := a ++ vI d y)
  have h2 := vI_len (d := d) (y := y)
  rw [touchGo, List.length_cons, Nat.mul_add]
  rw [List.length_append] at h1; omega
theorem once_rising {l : List Int} : compactL (srt l) = rising l := sorted_once (rising_rises l) fun z => mem_rising
theorem litsGo_ok {d : List tDecl} : ∀ {ys : List tLiteral} {b : Int}, litsGo d ys b = true -> (∀ y ∈ ys, b < y.1 /\ ¬ widthI d y.2.2.1 < 0 /\ ¬ widthI d y.2.2.2 < 0) /\ ys.Pairwise (fun a b => a.1 < b.1)
 | [], b, _ => ⟨fun y hy => absurd hy (by simp), List.Pairwise.nil⟩
 | x :: ys, b, h => by
  rw [litsGo] at h
  simp only [Bool.and_eq_true, decide_eq_true_eq, Bool.not_eq_true', decide_eq_false_iff_not] at h
  obtain ⟨g1, g2⟩ := litsGo_ok h.2
  refine ⟨fun y hy => ?_, List.pairwise_cons.2 ⟨fun y hy => (g1 y hy).1, g2⟩⟩
  rcases List.mem_cons.1 hy with rfl | hy
  ·exact ⟨by omega, h.1.1.2, by rw [<- h.1.2]; exact h.1.1.2⟩
  ·have := g1 y hy; exact ⟨by omega, this.2⟩
theorem litsOk_all {d : List tDecl} {l : List tLiteral} (h : litsOk d l = true) : d.length <= 60 /\ declsOk d = true /\ l.length <= 60 /\ (∀ y ∈ l, ¬ widthI d y.2.2.1 < 0 /\ ¬ widthI d y.2.2.2 < 0) /\ l.Pairwise (fun a b => a.1 < b.1) := by
 unfold litsOk litsI at h
 rw [Bool.and_eq_true, Bool.and_eq_true, decide_eq_true_eq] at h
 obtain ⟨g1, g2⟩ := litsGo_ok h.2.2
 have hd := h.1
 unfold declsOk at hd
 rw [Bool.and_eq_true, decide_eq_true_eq] at hd
 exact ⟨hd.1, h.1, h.2.1, fun y hy => (g1 y hy).2, g2⟩
theorem concat1_lp {x9 l : List (List Int)} (hl : l.length <= 1000) (hb : ∀ z ∈ l, z.length <= 1000000) : ∀ (ys : List (List Int)) (x s : Int), l.drop x.toNat = ys -> 0 <= x -> x + ys.length = l.length -> 0 <= s -> s <= 1000000 * x -> ∀ Kx : Nat -> List (List Int) -> Int -> Prop,
  (∀ s : Int, 0 <= s -> s <= 1000000000 -> Ev (fun n => Kx n x9 s)) -> Ev (fun n => Z58.l3 n x9 l l.length s x (Kx n))
 | [], x, s, h, h0, hx0, hs, hs', Kx, hx => by
  rw [List.length_nil] at hx0
  refine Ev.succ ?_
  simp only [Z58.l3, Z58.l3.b]
  exact Ev.neg (by simp; omega) (hx s hs (by omega)).shift
 | y :: ys, x, s, h, h0, hx0, hs, hs', Kx, hx => by
  obtain ⟨e1, e2, e3⟩ := drop_cons h h0
  have hy := hb y (e2 ▸ rd_memY (by omega))
  rw [List.length_cons] at hx0
  refine Ev.succ ?_
  simp only [Z58.l3, Z58.l3.b]
  rw [e2, wrap64 (x := x + 1) (by omega) (by omega), wrap64 (x := s + (y.length : Int)) (by omega) (by omega)]
  exact Ev.pos (by simp; omega) (Ev.grd (by simp; omega) (Ev.neg (by simp; omega) (concat1_lp hl hb ys (x + 1) _ e3 (by omega) (by omega) (by omega) (by omega) (fun n => Kx (n + 1)) fun s h1 h2 => (hx s h1 h2).shift)))
theorem concat2_lp {l : List (List Int)} (hl : l.length <= 1000) (hb : ∀ z ∈ l, z.length <= 1000000) : ∀ (ys : List (List Int)) (x : Int) (o : List Int), l.drop x.toNat = ys -> 0 <= x -> x + ys.length = l.length -> (o.length : Int) <= 1000000 * x -> ∀ Kx : Nat -> List Int -> Prop,
  Ev (fun n => Kx n (o ++ ys.flatten)) -> Ev (fun n => Z58.l11 n l l.length x o (Kx n))
 | [], x, o, h, h0, hx0, ho, Kx, hx => by
  rw [List.length_nil] at hx0
  refine Ev.succ ?_
  simp only [Z58.l11, Z58.l11.b]
  rw [List.flatten_nil, List.append_nil] at hx
  exact Ev.neg (by simp; omega) hx.shift
 | y :: ys, x, o, h, h0, hx0, ho, Kx, hx => by
  obtain ⟨e1, e2, e3⟩ := drop_cons h h0
  have hy := hb y (e2 ▸ rd_memY (by omega))
  rw [List.length_cons] at hx0
  refine Ev.succ ?_
  simp only [Z58.l11, Z58.l11.b]
  rw [e2, wrap64 (x := x + 1) (by omega) (by omega)]
  refine Ev.pos (by simp; omega) (Ev.grd (by simp; omega) (Ev.grd (by simp; omega) (concat2_lp hl hb ys (x + 1) (o ++ y) e3 (by omega) (by omega) (by rw [List.length_append]; omega) (fun n => Kx (n + 1)) ?_)))
  rw [List.flatten_cons, <- List.append_assoc] at hx
  exact hx.shift
theorem concat_wp {a b : List Int} (ha : a.length <= 1000000) (hb : b.length <= 1000000) (R : Nat -> List Int -> Prop) (hR : Ev fun n => R n (a ++ b)) : Ev (fun n => Z58.c n [a, b] (R n)) := by
 have hz : ∀ z ∈ [a, b], z.length <= 1000000 := fun z hz => by
  simp only [List.mem_cons, List.not_mem_nil, or_false] at hz
  rcases hz with rfl | rfl
  ·exact ha
  ·exact hb
 refine Ev.succ ?_
 simp only [Z58.c, Z58.w]
 refine concat1_lp (by simp) hz [a, b] 0 0 rfl (by omega) (by simp) (by omega) (by omega) (fun n y18 y19 => _) fun s h1 h2 => ?_
 refine Ev.succ ?_
 simp only [Z60.c, Z60.w]
 refine Ev.grd (by simp; omega) ?_
 have := concat2_lp (by simp) hz [a, b] 0 [] rfl (by omega) (by simp) (by simp) (fun n y30 => R (n + 1) y30) (by simpa using hR.shift)
 exact this.shift
theorem varsIn_wp {d : List tDecl} {y : tLiteral} (hd : d.length <= 60) (h1 : ¬ widthI d y.2.2.1 < 0) (h2 : ¬ widthI d y.2.2.2 < 0) (R : Nat -> List Int -> Prop) (hR : Ev fun n => R n (vI d y)) : Ev (fun n => Z14.c n y.1 y.2.1 y.2.2.1 y.2.2.2 (R n)) := by
 have l1 := (width_vars h1).2
 have l2 := (width_vars h2).2
 have v1 : (varsP d y.2.2.1).length <= d.length := varsUp_len
 have v2 : (varsP d y.2.2.2).length <= d.length := varsUp_len
 refine Ev.succ ?_
 simp only [Z14.c, Z14.w, and_self]
 refine vsI_wp (by omega) _ ?_
 rw [vars_one h1]
 refine vsI_wp (by omega) _ ?_
 rw [vars_one h2]
 refine concat_wp (by omega) (by omega) _ ?_
 rw [sort_ev (by rw [List.length_append]; omega)]
 refine compact_wp (by rw [srt_len, List.length_append]; omega) _ ?_
 rw [once_rising]
 exact hR.shift
theorem touchedI_lp {d : List tDecl} (hd : d.length <= 60) {o : List tLiteral} (ho : o.length <= 60) (hw : ∀ y ∈ o, ¬ widthI d y.2.2.1 < 0 /\ ¬ widthI d y.2.2.2 < 0) : ∀ (ys : List tLiteral) (x : Int) (a : List Int), o.drop x.toNat = ys -> 0 <= x -> (a.length : Int) <= 120 * x -> ∀ Kx : Nat -> List Int -> Prop,
  Ev (fun n => Kx n (touchGo d ys a)) -> Ev (fun n => Z13.l3 n o o.length x a (Kx n))
 | [], x, a, h, h0, ha, Kx, hx => by
  have := drop_nil h h0
  refine Ev.succ ?_
  simp only [Z13.l3, Z13.l3.b]
  exact Ev.neg (by simp; omega) hx.shift
 | y :: ys, x, a, h, h0, ha, Kx, hx => by
  obtain ⟨e1, e2, e3⟩ := drop_cons h h0
  have hy := hw y (e2 ▸ rd_memY (by omega))
  have hv := vI_len (d := d) (y := y)
  refine Ev.succ ?_
  simp only [Z13.l3, Z13.l3.b]
  rw [e2, wrap64 (x := x + 1) (by omega) (by omega)]
  refine Ev.pos (by simp; omega) (Ev.grd (by simp; omega) (varsIn_wp hd hy.1 hy.2 _ (Ev.grd (by simp; omega) ?_)))
  exact touchedI_lp hd ho hw ys (x + 1) _ e3 (by omega) (by rw [List.length_append]; omega) (fun n => Kx (n + 1)) hx.shift
theorem touchedI_wp {d : List tDecl} (hd : d.length <= 60) {o : List tLiteral} (ho : o.length <= 60) (hw : ∀ y ∈ o, ¬ widthI d y.2.2.1 < 0 /\ ¬ widthI d y.2.2.2 < 0) (R : Nat -> List Int -> Prop) (hR : Ev fun n => R n (rising (touchGo d o []))) : Ev (fun n => Z13.c n o (R n)) := by
 have ht := touchGo_len (d := d) (o := o) (a := [])
 have hb : 2 * d.length * o.length <= 120 * 60 := Nat.mul_le_mul (by omega) ho
 rw [List.length_nil] at ht
 refine Ev.succ ?_
 simp only [Z13.c, Z13.w]
 refine touchedI_lp hd ho hw o 0 [] rfl (by omega) (by simp) (fun n y23 => _) ?_
 rw [sort_ev (by omega)]
 refine compact_wp (by rw [srt_len]; omega) _ ?_
 rw [once_rising]
 exact hR.shift
end Go.Vsi
end

section
set_option linter.unusedVariables false
set_option linter.unusedSimpArgs false
set_option synthInstance.maxSize 4096
namespace Go.Vsi
def ahead1 (ids : List Int) (x : Int) : Option Int := if x > 0 then some (rd ids (x - 1).toNat) else none
theorem chosen1_ev {id : Int} {y : tLiteral} (R : Nat -> Bool -> Prop) :
  Ev (fun n => Z7.c n y.1 y.2.1 y.2.2.1 y.2.2.2 id (R n)) ↔ Ev (fun n => R n (decide (y.1 = id))) := by
 refine Ev.suc.trans ?_
 simp only [Z7.c, Z7.w, Ev.s1 R]
theorem Z62_lp {l : List tLiteral} {id : Int} (hl : l.length <= 1099511627776) : ∀ (ys : List tLiteral) (x : Int), l.drop x.toNat = ys -> 0 <= x ->
  ∀ (Kx : Nat -> Prop) (Kr : Nat -> Int -> Prop),
  (Ev (fun n => Z62.l2 n l id l.length x (Kx n) (Kr n)) ↔ if firstIx (fun y => decide (y.1 = id)) ys x < 0 then Ev Kx else Ev (fun n => Kr n (firstIx (fun y => decide (y.1 = id)) ys x)))
 | [], x, h, h0, Kx, Kr => by
  have := drop_nil h h0
  rw [firstIx, if_pos (by decide)]
  refine Ev.suc.trans ?_
  simp (disch := omega) only [Z62.l2, Z62.l2.b, if_neg, decide_eq_true_eq, Ev.s0 Kx]
 | y :: ys, x, h, h0, Kx, Kr => by
  obtain ⟨e1, e2, e3⟩ := drop_cons h h0
  refine Ev.suc.trans ?_
  simp (disch := first | omega | omega) only [Z62.l2, Z62.l2.b, if_pos, decide_eq_true_eq, grd_dec2, e2, wrap64, Ev.s1 Kr, chosen1_ev, Ev.iteI]
  rw [Z62_lp hl ys (x + 1) e3 (by omega), Ev.s0 Kx, Ev.s1 Kr]
  simp only [firstIx, decide_eq_true_eq]
  split
  ·rw [if_neg (by omega)]
  ·rfl
theorem Z62_ev {l : List tLiteral} {id : Int} (hl : l.length <= 1099511627776) (R : Nat -> Int -> Prop) :
  Ev (fun n => Z62.c n l id (R n)) ↔ Ev (fun n => R n (firstIx (fun y => decide (y.1 = id)) l 0)) := by
 refine Ev.suc.trans ?_
 simp only [Z62.c, Z62.w]
 rw [Z62_lp hl l 0 rfl (by omega), Ev.s1 R, Ev.s1 R]
 split
 ·rw [firstIx_neg (by omega) ‹_›]
 ·rfl
theorem chosenI_lp {l : List tLiteral} (hl : l.length <= 1048576) {ids : List Int} (hi : ids.length <= 1048576) : ∀ (ys : List Int) (x : Int) (out : List tLiteral), ids.drop x.toNat = ys -> 0 <= x -> (out.length : Int) <= x -> ∀ (Kx : Nat -> List tLiteral -> Prop) (Kr : Nat -> Bool -> List tLiteral -> Prop),
  (∀ o, chP l (ahead1 ids x) ys out = some o -> Ev (fun n => Kx n o)) -> (chP l (ahead1 ids x) ys out = none -> Ev (fun n => Kr n false [])) ->
  Ev (fun n => Z6.l3 n l ids ids ids.length x out (Kx n) (Kr n))
 | [], x, out, h, h0, ho, Kx, Kr, k1, k2 => by
  have := drop_nil h h0
  refine Ev.succ ?_
  simp only [Z6.l3, Z6.l3.b]
  exact Ev.neg (by simp; omega) (k1 out rfl).shift
 | id :: ys, x, out, h, h0, ho, Kx, Kr, k1, k2 => by
  obtain ⟨e1, e2, e3⟩ := drop_cons h h0
  have ha : ahead1 ids (x + 1) = some id := by
   unfold ahead1
   rw [if_pos (by omega), show x + 1 - 1 = x from by omega, e2]
  unfold chP at k1 k2
  refine Ev.succ ?_
  simp only [Z6.l3, Z6.l3.b]
  rw [e2, wrap64 (x := x - 1) (by omega) (by omega)]
  refine Ev.pos (by simp; omega) (Ev.grd (by simp; omega) ?_)
  rw [Z62_ev (by omega)]
  have ef : firstIx (fun y : tLiteral => decide (y.1 = id)) l 0 = atId l id := rfl
  rw [ef]
  have fail : (atId l id < 0 \/ notUp (ahead1 ids x) id = true) -> Ev (fun n => Kr n false []) := fun hc => by
   rw [if_pos hc] at k2; exact k2 rfl
  by_cases hn : atId l id < 0
  ·refine Ev.neg (by simpa using hn) ?_
   simp only [Z6.j7]
   exact Ev.pos (by trivial) (fail (.inl hn)).shift
  ·have hok := atId_ok hn
   have go : ¬ notUp (ahead1 ids x) id = true -> Ev (fun n => Z6.l3 n l ids ids ids.length (x + 1) (out ++ [rd l (atId l id).toNat]) (Kx (n + 1)) (Kr (n + 1))) := fun hu => by
    have hc : ¬ (atId l id < 0 \/ notUp (ahead1 ids x) id = true) := fun h => h.elim hn hu
    rw [if_neg hc] at k1 k2
    refine chosenI_lp hl hi ys (x + 1) _ e3 (by omega) (by simp; omega) (fun n => Kx (n + 1)) (fun n => Kr (n + 1)) (fun o e => ?_) (fun e => ?_)
    ·rw [ha] at e; exact (k1 o e).shift
    ·rw [ha] at e; exact (k2 e).shift
   refine Ev.pos (by simpa using hn) ?_
   by_cases hx : x > 0
   ·have hu : notUp (ahead1 ids x) id = decide (id <= rd ids (x - 1).toNat) := by unfold ahead1; rw [if_pos hx]; rfl
    refine Ev.pos (by simpa using hx) (Ev.grd (by simp; omega) ?_)
    simp only [Z6.j7]
    by_cases hle : id <= rd ids (x - 1).toNat
    ·exact Ev.pos (by simpa using hle) (fail (.inr (by rw [hu]; simpa using hle))).shift
    ·refine Ev.neg (by simpa using hle) (Ev.grd (by simp; omega) (Ev.grd (by simp; omega) ?_))
     rw [wrap64 (x := x + 1) (by omega) (by omega)]
     exact go (by rw [hu]; simpa using hle)
   ·have hu : notUp (ahead1 ids x) id = false := by unfold ahead1; rw [if_neg hx]; rfl
    refine Ev.neg (by simpa using hx) ?_
    simp only [Z6.j7]
    refine Ev.neg (by simp) (Ev.grd (by simp; omega) (Ev.grd (by simp; omega) ?_))
    rw [wrap64 (x := x + 1) (by omega) (by omega)]
    exact go (by rw [hu]; simp)
theorem chosenI_wp {l : List tLiteral} (hl : l.length <= 1048576) {ids : List Int} (hi : ids.length <= 1048576) (R : Nat -> List tLiteral -> Bool -> Prop)
  (h1 : ∀ o, chP l none ids [] = some o -> Ev (fun n => R n o true)) (h2 : chP l none ids [] = none -> Ev (fun n => R n [] false)) : Ev (fun n => Z6.c n l ids (R n)) := by
 refine Ev.succ ?_
 simp only [Z6.c, Z6.w]
 exact chosenI_lp hl hi ids 0 [] rfl (by omega) (by simp) (fun n y60 => R (n + 1) y60 true) (fun n y61 y62 => R (n + 1) y62 y61) (fun o e => (h1 o e).shift) (fun e => (h2 e).shift)
theorem touchingI_wp {d : List tDecl} {l : List tLiteral} {ids : List Int} (hd : d.length <= 1048576) (hl : l.length <= 1048576) (hi : ids.length <= 1048576) (R : Nat -> List Int -> Bool -> Prop) (hR : Ev fun n => R n (touchP d l ids).1 (touchP d l ids).2) : Ev (fun n => Z5.c n d l ids (R n)) := by
 unfold touchP at hR
 refine Ev.succ ?_
 simp only [Z5.c, Z5.w]
 refine chosenI_wp hl hi _ (fun o e => ?_) (fun e => ?_)
 ·rw [litsOk_ev (by omega)]
  by_cases h : litsOk d l = true
  ·rw [if_pos h, e] at hR
   have ho := chP_le e
   have ha := litsOk_all h
   exact Ev.pos (by simpa using h) (Ev.neg (by simp) (touchedI_wp ha.1 (by omega) (fun y hy => ha.2.2.2.1 y (ho.2 y hy)) _ hR.shift))
  ·rw [if_neg h] at hR
   exact Ev.neg (by simpa using h) hR.shift
 ·rw [litsOk_ev (by omega)]
  rw [e] at hR
  by_cases h : litsOk d l = true
  ·rw [if_pos h] at hR
   exact Ev.pos (by simpa using h) (Ev.pos (by simp) hR.shift)
  ·rw [if_neg h] at hR
   exact Ev.neg (by simpa using h) hR.shift
end Go.Vsi
end

section
set_option linter.unusedVariables false
set_option linter.unusedSimpArgs false
set_option synthInstance.maxSize 4096
namespace Go.Vsi
theorem someS_lp {l : List tLiteral} (hl : l.length <= 60) {ids : List Int} {i : Int} (hi : 0 <= i /\ i < (ids.length : Int)) : ∀ (ys : List tLiteral) (j : Int) (out : List tLiteral), l.drop j.toNat = ys -> 0 <= j -> out.length + ys.length <= 2000000 -> ∀ Kx : Nat -> List tLiteral -> List Int -> Int -> List tLiteral -> Prop,
  Ev (fun n => Kx n l ids i (out ++ ys.filter fun y => decide (y.1 = rd ids i.toNat))) -> Ev (fun n => Z71.l8 n l ids i j out (Kx n))
 | [], j, out, h, h0, ho, Kx, hx => by
  have := drop_nil h h0
  refine Ev.succ ?_
  simp only [Z71.l8, Z71.l8.b]
  rw [List.filter_nil, List.append_nil] at hx
  exact Ev.neg (by simp; omega) hx.shift
 | y :: ys, j, out, h, h0, ho, Kx, hx => by
  obtain ⟨e1, e2, e3⟩ := drop_cons h h0
  rw [List.length_cons] at ho
  refine Ev.succ ?_
  simp only [Z71.l8, Z71.l8.b]
  rw [e2, wrap64 (x := j + 1) (by omega) (by omega)]
  rw [List.filter_cons] at hx
  refine Ev.pos (by simp; omega) (Ev.grd (by simp; omega) (Ev.grd (by simp; omega) ?_))
  by_cases hy : y.1 = rd ids i.toNat
  ·rw [if_pos (by simpa using hy)] at hx
   refine Ev.pos (by simpa using hy) (Ev.grd (by simp; omega) (Ev.grd (by simp; omega) (someS_lp hl hi ys (j + 1) (out ++ [y]) e3 (by omega) (by simp; omega) (fun n => Kx (n + 1)) ?_)))
   rw [List.append_assoc]; exact hx.shift
  ·rw [if_neg (by simpa using hy)] at hx
   exact Ev.neg (by simpa using hy) (someS_lp hl hi ys (j + 1) out e3 (by omega) (by omega) (fun n => Kx (n + 1)) hx.shift)
theorem chosenS_lp {l : List tLiteral} (hl : l.length <= 60) (hp : l.Pairwise fun a b => a.1 < b.1) {ids : List Int} (hi : ids.length <= 1048576) : ∀ (ys : List Int) (x : Int) (out : List tLiteral), ids.drop x.toNat = ys -> 0 <= x -> (out.length : Int) = x -> ∀ (Kx : Nat -> List tLiteral -> Prop) (Kr : Nat -> Bool -> List tLiteral -> Prop),
  (∀ o, chP l (ahead1 ids x) ys out = some o -> Ev (fun n => Kx n o)) -> (chP l (ahead1 ids x) ys out = none -> ∀ o, Ev (fun n => Kr n false o)) ->
  Ev (fun n => Z71.l3 n l ids x out (Kx n) (Kr n))
 | [], x, out, h, h0, ho, Kx, Kr, k1, k2 => by
  have := drop_nil h h0
  refine Ev.succ ?_
  simp only [Z71.l3, Z71.l3.b]
  exact Ev.neg (by simp; omega) (k1 out rfl).shift
 | id :: ys, x, out, h, h0, ho, Kx, Kr, k1, k2 => by
  obtain ⟨e1, e2, e3⟩ := drop_cons h h0
  have ha : ahead1 ids (x + 1) = some id := by
   unfold ahead1
   rw [if_pos (by omega), show x + 1 - 1 = x from by omega, e2]
  have hf : l.filter (fun y => decide (y.1 = id)) = if atId l id < 0 then [] else [rd l (atId l id).toNat] := by
   have := firstIx_filter (p := fun y : tLiteral => decide (y.1 = id)) (l := l) (x := 0) (by omega) (hp.imp fun h hh => by
    have h1 := of_decide_eq_true hh.1
    have h2 := of_decide_eq_true hh.2
    omega)
   rw [this]
   rw [Int.sub_zero]; rfl
  unfold chP at k1 k2
  have fail : (atId l id < 0 \/ notUp (ahead1 ids x) id = true) -> ∀ o, Ev (fun n => Kr n false o) := fun hc => by
   rw [if_pos hc] at k2; exact k2 rfl
  have core : ¬ notUp (ahead1 ids x) id = true -> Ev (fun n => Z71.j3 (Kr (n + 1)) (fun x74q x75q x76q x77q => Z71.l3 n x74q x75q x76q x77q (Kx (n + 1)) (Kr (n + 1))) (Z71.l8 n) l ids x out) := fun hu => by
   simp only [Z71.j3]
   refine someS_lp hl ⟨h0, e1⟩ l 0 out rfl (by omega) (by omega) (fun n y113 y114 y115 y116 => _) ?_
   rw [e2, hf, wrap64 (x := x + 1) (by omega) (by omega)]
   by_cases hn : atId l id < 0
   ·rw [if_pos hn, List.append_nil]
    exact Ev.pos (by simp; omega) (fail (.inl hn) _).shift
   ·rw [if_neg hn]
    refine Ev.neg (by simp; omega) ?_
    have hc : ¬ (atId l id < 0 \/ notUp (ahead1 ids x) id = true) := fun h => h.elim hn hu
    rw [if_neg hc] at k1 k2
    refine chosenS_lp hl hp hi ys (x + 1) _ e3 (by omega) (by simp; omega) (fun n => Kx (n + 1)) (fun n => Kr (n + 1)) (fun o e => ?_) (fun e o => ?_)
    ·rw [ha] at e; exact (k1 o e).shift
    ·rw [ha] at e; exact (k2 e o).shift
  refine Ev.succ ?_
  simp only [Z71.l3, Z71.l3.b]
  rw [e2, wrap64 (x := x - 1) (by omega) (by omega)]
  refine Ev.pos (by simp; omega) ?_
  by_cases hx : x > 0
  ·have hu : notUp (ahead1 ids x) id = decide (id <= rd ids (x - 1).toNat) := by unfold ahead1; rw [if_pos hx]; rfl
   refine Ev.pos (by simpa using hx) (Ev.grd (by simp; omega) (Ev.grd (by simp; omega) ?_))
   by_cases hle : id <= rd ids (x - 1).toNat
   ·exact Ev.pos (by simpa using hle) (fail (.inr (by rw [hu]; simpa using hle)) _).shift
   ·exact Ev.neg (by simpa using hle) (core (by rw [hu]; simpa using hle))
  ·have hu : notUp (ahead1 ids x) id = false := by unfold ahead1; rw [if_neg hx]; rfl
   exact Ev.neg (by simpa using hx) (core (by rw [hu]; simp))
theorem varsS17_wp {d : List tDecl} (hd : declsOk d = true) (hl : d.length <= 60) {y : tLiteral} (h1 : ¬ widthI d y.2.2.1 < 0) (h2 : ¬ widthI d y.2.2.2 < 0)
  (g1 : ∀ x : tTNode, x ∈ y.2.2.1 -> Wd x.2.2.2.2.2.1 /\ x.2.2.2.2.2.2.length <= 1099511627776) (g2 : ∀ x : tTNode, x ∈ y.2.2.2 -> Wd x.2.2.2.2.2.1 /\ x.2.2.2.2.2.2.length <= 1099511627776)
  (R : Nat -> List Int -> Prop) (hR : Ev fun n => R n (vI d y)) : Ev (fun n => Z72.c n d y.1 y.2.1 y.2.2.1 y.2.2.2 (R n)) := by
 have ev : ∀ t, ¬ widthI d t < 0 -> varsOf d t = varsP d t := fun t ht => by
  unfold varsOf widthOf
  rw [if_pos hd, if_neg ht]
 have v1 : (varsP d y.2.2.1).length <= d.length := varsUp_len
 have v2 : (varsP d y.2.2.2).length <= d.length := varsUp_len
 refine Ev.succ ?_
 simp only [Z72.c, Z72.w, and_self]
 refine varsS_wp (by omega) g1 _ ?_
 rw [ev _ h1]
 refine varsS_wp (by omega) g2 _ ?_
 rw [ev _ h2]
 refine Ev.grd (by simp; omega) ?_
 rw [rising_ev (by rw [List.length_append]; omega)]
 exact hR.shift
theorem touchedS_lp {d : List tDecl} (hd : declsOk d = true) (hl : d.length <= 60) {o : List tLiteral} (ho : o.length <= 60) (hw : ∀ y ∈ o, ¬ widthI d y.2.2.1 < 0 /\ ¬ widthI d y.2.2.2 < 0) (hg : LitG o) : ∀ (ys : List tLiteral) (x : Int) (a : List Int), o.drop x.toNat = ys -> 0 <= x -> (a.length : Int) <= 120 * x -> ∀ Kx : Nat -> List Int -> Prop,
  Ev (fun n => Kx n (touchGo d ys a)) -> Ev (fun n => Z68.l8 n d o x a (Kx n))
 | [], x, a, h, h0, ha, Kx, hx => by
  have := drop_nil h h0
  refine Ev.succ ?_
  simp only [Z68.l8, Z68.l8.b]
  exact Ev.neg (by simp; omega) hx.shift
 | y :: ys, x, a, h, h0, ha, Kx, hx => by
  obtain ⟨e1, e2, e3⟩ := drop_cons h h0
  have hm : y ∈ o := e2 ▸ rd_memY (by omega)
  have hy := hw y hm
  have hgy := hg y hm
  have hv := vI_len (d := d) (y := y)
  refine Ev.succ ?_
  simp only [Z68.l8, Z68.l8.b]
  rw [e2, wrap64 (x := x + 1) (by omega) (by omega)]
  refine Ev.pos (by simp; omega) (Ev.grd (by simp; omega) (varsS17_wp hd hl hy.1 hy.2 hgy.1 hgy.2 _ (Ev.grd (by simp; omega) ?_)))
  exact touchedS_lp hd hl ho hw hg ys (x + 1) _ e3 (by omega) (by rw [List.length_append]; omega) (fun n => Kx (n + 1)) hx.shift
theorem touchingS_wp {d : List tDecl} {l : List tLiteral} {ids : List Int} (hd : d.length <= 1048576) (hi : ids.length <= 1048576) (hg : LitG l) (R : Nat -> List Int -> Bool -> Prop) (hR : Ev fun n => R n (touchP d l ids).1 (touchP d l ids).2) : Ev (fun n => Z68.c n d l ids (R n)) := by
 unfold touchP at hR
 refine Ev.succ ?_
 simp only [Z68.c, Z68.w]
 rw [litsS_ev (by omega) hg]
 by_cases h : litsOk d l = true
 rotate_left
 ·rw [if_neg h] at hR
  exact Ev.pos (by simpa using h) hR.shift
 rw [if_pos h] at hR
 have ha := litsOk_all h
 refine Ev.neg (by simpa using h) ?_
 refine Ev.succ ?_
 simp only [Z71.c, Z71.w]
 refine chosenS_lp ha.2.2.1 ha.2.2.2.2 hi ids 0 [] rfl (by omega) (by simp) (fun n y124 => _) (fun n y125 y126 => _) (fun o e => ?_) (fun e o => ?_)
 ·rw [show chP l none ids [] = some o from e] at hR
  have ho := chP_le e
  have ht := touchGo_len (d := d) (o := o) (a := [])
  have hb : 2 * d.length * o.length <= 120 * 60 := Nat.mul_le_mul (by omega) (by omega)
  rw [List.length_nil] at ht
  refine Ev.neg (by simp) ?_
  have key := touchedS_lp ha.2.1 ha.1 (o := o) (by omega) (fun y hy => ha.2.2.2.1 y (ho.2 y hy)) (fun y hy => hg y (ho.2 y hy)) o 0 [] rfl (by omega) (by simp) (fun n y21 => Z83.c n y21 (fun r22 => R (n + 1) r22 true)) (by rw [rising_ev (by omega)]; exact hR.shift)
  exact key.shift
 ·rw [show chP l none ids [] = none from e] at hR
  exact Ev.pos (by simp) hR.shift.shift
end Go.Vsi
end

section
set_option linter.unusedVariables false
set_option linter.unusedSimpArgs false
namespace Go.Vsi
def decGo : Nat -> Int -> List UInt8 -> List UInt8
 | 0, _, out => out
 | f + 1, k, out => if k > 0 then decGo f (k / 10) (bytesStr [48 + k % 10] ++ out) else out
theorem decGo_len : ∀ (f : Nat) (k : Int) (out : List UInt8), (decGo f k out).length <= out.length + f
 | 0, k, out => Nat.le_refl _
 | f + 1, k, out => by
  rw [decGo]
  split
  ·have := decGo_len f (k / 10) (bytesStr [48 + k % 10] ++ out)
   have e : (bytesStr [48 + k % 10]).length = 1 := rfl
   rw [List.length_append, e] at this
   omega
  ·omega
theorem digit_byte {k : Int} (h : 0 < k) (hb : k < 9223372036854775808) : IntKind.wrap .u8 (IntKind.wrap .i64 (48 + Int.tmod k 10)) = 48 + k % 10 := by
 rw [tmodP (by omega), wrap64 (by omega) (by omega), wrap8 (by omega) (by omega)]
theorem mText_lp : ∀ (f : Nat) (k : Int) (out : List UInt8), k < 10 ^ f -> k < 9223372036854775808 -> out.length + f <= 1000 -> ∀ (Kx : Nat -> List UInt8 -> Prop),
  (Ev (fun n => Z35.l4 n k out (Kx n)) ↔ Ev (fun n => Kx n (decGo f k out)))
 | 0, k, out, h, hb, hl, Kx => by
  have h : k < 1 := h
  refine Ev.suc.trans ?_
  simp (disch := omega) only [Z35.l4, Z35.l4.b, if_neg, decide_eq_true_eq, Ev.s1 Kx, decGo]
 | f + 1, k, out, h, hb, hl, Kx => by
  rw [decGo]
  refine Ev.suc.trans ?_
  simp only [Z35.l4, Z35.l4.b, Ev.iteI, decide_eq_true_eq]
  by_cases hk : k > 0
  ·rw [if_pos hk, if_pos hk]
   have e : IntKind.wrap .i64 (Int.tdiv k 10) = k / 10 := by rw [tdivP (by omega), wrap64 (by omega) (by omega)]
   have hp : (10 : Int) ^ (f + 1) = 10 ^ f * 10 := Int.pow_succ 10 f
   simp (disch := (simp only [bytesStr, List.map_cons, List.map_nil, List.length_cons, List.length_nil]; omega)) only [digit_byte hk hb, e, grd_dec]
   rw [mText_lp f (k / 10) _ (by omega) (by omega) (by simp only [bytesStr, List.map_cons, List.map_nil, List.length_append, List.length_cons, List.length_nil]; omega), Ev.s1 Kx]
  ·rw [if_neg hk, if_neg hk, Ev.s1 Kx]
def mText (k : Int) : List UInt8 := [109] ++ decGo 19 k []
theorem markText_ev {k : Int} (h : 0 < k) (hb : k <= 4611686018427387904) (R : Nat -> List UInt8 -> Prop) :
  Ev (fun n => Z35.c n k (R n)) ↔ Ev (fun n => R n (mText k)) := by
 refine Ev.suc.trans ?_
 have := decGo_len 19 k []
 simp only [List.length_nil] at this
 simp only [Z35.c, Z35.w, Ev.iteI, decide_eq_true_eq]
 rw [if_neg (by omega), mText_lp 19 k [] (by omega) (by omega) (by simp)]
 simp (disch := (simp only [List.length_cons, List.length_nil]; omega)) only [grd_dec, Ev.s1 R, mText]
end Go.Vsi
end

section
set_option linter.unusedVariables false
set_option linter.unusedSimpArgs false
set_option synthInstance.maxSize 4096
namespace Go.Vsi
theorem Z38_ev {a0 : List UInt8} {a1 : Int} {left : Int} (h0 : -1 <= left) (h1 : left <= 1099511627776) (h2 : a0.length <= 9223372036854775807) (R : Nat -> Int -> Prop) :
  Ev (fun n => Z38.c n a0 a1 left (R n)) ↔ Ev (fun n => R n (szr left (a0.length))) := by
 refine Ev.suc.trans ?_
 simp (disch := first | assumption | omega | exact szr_m1 (by assumption) | exact szr_le' (by assumption) (by assumption)) only [Z38.c, Z38.w, wrap64, Ev.iteI, decide_eq_true_eq, Ev.s1 R]
 unfold szr; (repeat' split) <;> first | rfl | (exfalso; omega) | exact ev_arg (by omega)
def sDeclS : List tDecl -> Nat
 | [] => 0
 | y :: r => y.1.length + sDeclS r
theorem sDeclS_mem {y : tDecl} : ∀ {l : List tDecl}, y ∈ l -> y.1.length <= sDeclS l
 | [], h => absurd h List.not_mem_nil
 | a :: l, h => by
  rw [sDeclS]
  rcases List.mem_cons.1 h with rfl | h
  ·omega
  ·have := sDeclS_mem h; omega
abbrev yDecl : Ty := .prod .str (.int .i64)
theorem szDeclS_gd {l : List tDecl} (h : Gd (.sl 0 yDecl) l) : ∀ y : tDecl, y ∈ l -> y.1.length <= 9223372036854775807 := fun y hy => (h.2 y hy).1
theorem Z39_lp {l : List tDecl} (hl : l.length <= 9223372036854775807) : ∀ (ys : List tDecl) (x left : Int), l.drop x.toNat = ys -> 0 <= x -> 0 <= left -> left <= 1099511627776 -> (∀ y ∈ ys, y.1.length <= 9223372036854775807) -> ∀ (Kx : Nat -> Int -> Prop),
  (Ev (fun n => Z39.l5 n l left x (Kx n) (Kx n)) ↔ Ev (fun n => Kx n (szr left (sDeclS ys))))
 | [], x, left, h, h0, h1, h2, hy, Kx => by
  have := drop_nil h h0
  refine Ev.suc.trans ?_
  simp (disch := omega) only [Z39.l5, Z39.l5.b, if_neg, decide_eq_true_eq, Ev.s1 Kx, sDeclS]
  refine ev_arg ?_; unfold szr; split <;> omega
 | y :: ys, x, left, h, h0, h1, h2, hy, Kx => by
  obtain ⟨e1, e2, e3⟩ := drop_cons h h0
  have hy0 := hy y List.mem_cons_self
  refine Ev.suc.trans ?_
  simp (disch := first | assumption | exact hy0.1 | exact hy0.2 | exact hy0.2.1 | exact hy0.2.2 | exact hy0.2.2.1 | exact hy0.2.2.2 | omega) only [Z39.l5, Z39.l5.b, if_pos, decide_eq_true_eq, Ev.s1 Kx, grd_dec2, e2, Z38_ev, Ev.iteI, wrap64]
  split
  ·rename_i hs
   rw [sDeclS, szr_back hs]
  ·rename_i hs
   rw [Z39_lp hl ys (x + 1) _ e3 (by omega) (by omega) (szr_le' (by omega) h2) (fun y hy' => hy y (List.mem_cons_of_mem _ hy')), sDeclS, szr_two h1 hs, Ev.s1 Kx]
theorem Z39_ev {l : List tDecl} {left : Int} (h0 : -1 <= left) (h1 : left <= 1099511627776) (hl : l.length <= 9223372036854775807) (hy : ∀ y ∈ l, y.1.length <= 9223372036854775807) (R : Nat -> Int -> Prop) :
  Ev (fun n => Z39.c n l left (R n)) ↔ Ev (fun n => R n (szr left (l.length + sDeclS l))) := by
 refine Ev.suc.trans ?_
 simp (disch := omega) only [Z39.c, Z39.w, wrap64, Ev.iteI, decide_eq_true_eq, Ev.s1 R]
 split
 ·refine ev_arg ?_; unfold szr; split <;> omega
 ·rw [Z39_lp hl l 0 _ rfl (by omega) (by omega) (by omega) hy, Ev.s1 R]
  refine ev_arg ?_; unfold szr; (repeat' split) <;> omega
theorem Z46_ev {l : List Int} {left : Int} (h0 : -1 <= left) (h1 : left <= 1099511627776) (hl : l.length <= 9223372036854775807) (R : Nat -> Int -> Prop) :
  Ev (fun n => Z46.c n l left (R n)) ↔ Ev (fun n => R n (szr left l.length)) := by
 refine Ev.suc.trans ?_
 simp (disch := omega) only [Z46.c, Z46.w, wrap64, Ev.iteI, decide_eq_true_eq, Ev.s1 R]
 unfold szr; split <;> split <;> first | rfl | omega | exact ev_arg (by omega)
theorem Z37_ev {a0 : Int} {a1 : List Int} {left : Int} (h0 : -1 <= left) (h1 : left <= 1099511627776) (h2 : a1.length <= 9223372036854775807) (R : Nat -> Int -> Prop) :
  Ev (fun n => Z37.c n a0 a1 left (R n)) ↔ Ev (fun n => R n (szr left (a1.length))) := by
 refine Ev.suc.trans ?_
 simp (disch := first | assumption | omega | exact szr_m1 (by assumption) | exact szr_le' (by assumption) (by assumption)) only [Z37.c, Z37.w, Z46_ev, wrap64, Ev.iteI, decide_eq_true_eq, Ev.s1 R]
 unfold szr; (repeat' split) <;> first | rfl | (exfalso; omega) | exact ev_arg (by omega)
theorem Z40_ev {l : List Int} {left : Int} (h0 : -1 <= left) (h1 : left <= 1099511627776) (hl : l.length <= 9223372036854775807) (R : Nat -> Int -> Prop) :
  Ev (fun n => Z40.c n l left (R n)) ↔ Ev (fun n => R n (szr left l.length)) := by
 refine Ev.suc.trans ?_
 simp (disch := omega) only [Z40.c, Z40.w, wrap64, Ev.iteI, decide_eq_true_eq, Ev.s1 R]
 unfold szr; split <;> split <;> first | rfl | omega | exact ev_arg (by omega)
theorem Z43_ev {a0 : Int} {a1 : Int} {a2 : Int} {a3 : Int} {a4 : Int} {a5 : List Int} {a6 : List Int} {left : Int} (h0 : -1 <= left) (h1 : left <= 1099511627776) (h2 : a5.length <= 9223372036854775807) (h3 : a6.length <= 9223372036854775807) (R : Nat -> Int -> Prop) :
  Ev (fun n => Z43.c n a0 a1 a2 a3 a4 a5 a6 left (R n)) ↔ Ev (fun n => R n (szr left (a5.length + a6.length))) := by
 refine Ev.suc.trans ?_
 simp (disch := first | assumption | omega | exact szr_m1 (by assumption) | exact szr_le' (by assumption) (by assumption)) only [Z43.c, Z43.w, Z37_ev, Z40_ev, wrap64, Ev.iteI, decide_eq_true_eq, Ev.s1 R]
 unfold szr; (repeat' split) <;> first | rfl | (exfalso; omega) | exact ev_arg (by omega)
def sTNodeS : List tTNode -> Nat
 | [] => 0
 | y :: r => (y.2.2.2.2.2.1.length + y.2.2.2.2.2.2.length) + sTNodeS r
theorem sTNodeS_mem {y : tTNode} : ∀ {l : List tTNode}, y ∈ l -> y.2.2.2.2.2.1.length + y.2.2.2.2.2.2.length <= sTNodeS l
 | [], h => absurd h List.not_mem_nil
 | a :: l, h => by
  rw [sTNodeS]
  rcases List.mem_cons.1 h with rfl | h
  ·omega
  ·have := sTNodeS_mem h; omega
abbrev yTNode : Ty := .prod (.int .i64) (.prod (.int .i64) (.prod (.int .i64) (.prod (.int .i64) (.prod (.int .i64) (.prod (.sl 0 (.int .u64)) (.sl 0 (.int .i64)))))))
theorem Z44_lp {l : List tTNode} (hl : l.length <= 9223372036854775807) : ∀ (ys : List tTNode) (x left : Int), l.drop x.toNat = ys -> 0 <= x -> 0 <= left -> left <= 1099511627776 -> (∀ y ∈ ys, y.2.2.2.2.2.1.length <= 9223372036854775807 /\ y.2.2.2.2.2.2.length <= 9223372036854775807) -> ∀ (Kx : Nat -> Int -> Prop),
  (Ev (fun n => Z44.l5 n l left x (Kx n) (Kx n)) ↔ Ev (fun n => Kx n (szr left (sTNodeS ys))))
 | [], x, left, h, h0, h1, h2, hy, Kx => by
  have := drop_nil h h0
  refine Ev.suc.trans ?_
  simp (disch := omega) only [Z44.l5, Z44.l5.b, if_neg, decide_eq_true_eq, Ev.s1 Kx, sTNodeS]
  refine ev_arg ?_; unfold szr; split <;> omega
 | y :: ys, x, left, h, h0, h1, h2, hy, Kx => by
  obtain ⟨e1, e2, e3⟩ := drop_cons h h0
  have hy0 := hy y List.mem_cons_self
  refine Ev.suc.trans ?_
  simp (disch := first | assumption | exact hy0.1 | exact hy0.2 | exact hy0.2.1 | exact hy0.2.2 | exact hy0.2.2.1 | exact hy0.2.2.2 | omega) only [Z44.l5, Z44.l5.b, if_pos, decide_eq_true_eq, Ev.s1 Kx, grd_dec2, e2, Z43_ev, Ev.iteI, wrap64]
  split
  ·rename_i hs
   rw [sTNodeS, szr_back hs]
  ·rename_i hs
   rw [Z44_lp hl ys (x + 1) _ e3 (by omega) (by omega) (szr_le' (by omega) h2) (fun y hy' => hy y (List.mem_cons_of_mem _ hy')), sTNodeS, szr_two h1 hs, Ev.s1 Kx]
theorem Z44_ev {l : List tTNode} {left : Int} (h0 : -1 <= left) (h1 : left <= 1099511627776) (hl : l.length <= 9223372036854775807) (hy : ∀ y ∈ l, y.2.2.2.2.2.1.length <= 9223372036854775807 /\ y.2.2.2.2.2.2.length <= 9223372036854775807) (R : Nat -> Int -> Prop) :
  Ev (fun n => Z44.c n l left (R n)) ↔ Ev (fun n => R n (szr left (l.length + sTNodeS l))) := by
 refine Ev.suc.trans ?_
 simp (disch := omega) only [Z44.c, Z44.w, wrap64, Ev.iteI, decide_eq_true_eq, Ev.s1 R]
 split
 ·refine ev_arg ?_; unfold szr; split <;> omega
 ·rw [Z44_lp hl l 0 _ rfl (by omega) (by omega) (by omega) hy, Ev.s1 R]
  refine ev_arg ?_; unfold szr; (repeat' split) <;> omega
theorem Z45_ev {a0 : List (Int × Int × Int × Int × Int × List (Int) × List (Int))} {left : Int} (h0 : -1 <= left) (h1 : left <= 1099511627776) (h2 : a0.length <= 9223372036854775807) (h3 : (∀ y : tTNode, y ∈ a0 -> y.2.2.2.2.2.1.length <= 9223372036854775807 /\ y.2.2.2.2.2.2.length <= 9223372036854775807)) (R : Nat -> Int -> Prop) :
  Ev (fun n => Z45.c n a0 left (R n)) ↔ Ev (fun n => R n (szr left ((a0.length + sTNodeS a0)))) := by
 refine Ev.suc.trans ?_
 simp (disch := first | assumption | omega | exact szr_m1 (by assumption) | exact szr_le' (by assumption) (by assumption)) only [Z45.c, Z45.w, Z44_ev, wrap64, Ev.iteI, decide_eq_true_eq, Ev.s1 R]
 unfold szr; (repeat' split) <;> first | rfl | (exfalso; omega) | exact ev_arg (by omega)
theorem Z41_ev {a0 : Int} {a1 : Bool} {a2 : List (Int × Int × Int × Int × Int × List (Int) × List (Int))} {a3 : List (Int × Int × Int × Int × Int × List (Int) × List (Int))} {left : Int} (h0 : -1 <= left) (h1 : left <= 1099511627776) (h2 : a2.length <= 9223372036854775807) (h3 : (∀ y : tTNode, y ∈ a2 -> y.2.2.2.2.2.1.length <= 9223372036854775807 /\ y.2.2.2.2.2.2.length <= 9223372036854775807)) (h4 : a3.length <= 9223372036854775807) (h5 : (∀ y : tTNode, y ∈ a3 -> y.2.2.2.2.2.1.length <= 9223372036854775807 /\ y.2.2.2.2.2.2.length <= 9223372036854775807)) (R : Nat -> Int -> Prop) :
  Ev (fun n => Z41.c n a0 a1 a2 a3 left (R n)) ↔ Ev (fun n => R n (szr left (((a2.length + sTNodeS a2)) + ((a3.length + sTNodeS a3))))) := by
 refine Ev.suc.trans ?_
 simp (disch := first | assumption | omega | exact szr_m1 (by assumption) | exact szr_le' (by assumption) (by assumption)) only [Z41.c, Z41.w, Z45_ev, wrap64, Ev.iteI, decide_eq_true_eq, Ev.s1 R]
 unfold szr; (repeat' split) <;> first | rfl | (exfalso; omega) | exact ev_arg (by omega)
def sLiteralS : List tLiteral -> Nat
 | [] => 0
 | y :: r => (((y.2.2.1.length + sTNodeS y.2.2.1)) + ((y.2.2.2.length + sTNodeS y.2.2.2))) + sLiteralS r
theorem sLiteralS_mem {y : tLiteral} : ∀ {l : List tLiteral}, y ∈ l -> ((y.2.2.1.length + sTNodeS y.2.2.1)) + ((y.2.2.2.length + sTNodeS y.2.2.2)) <= sLiteralS l
 | [], h => absurd h List.not_mem_nil
 | a :: l, h => by
  rw [sLiteralS]
  rcases List.mem_cons.1 h with rfl | h
  ·omega
  ·have := sLiteralS_mem h; omega
abbrev yLiteral : Ty := .prod (.int .i64) (.prod .bool (.prod (.sl 0 (.prod (.int .i64) (.prod (.int .i64) (.prod (.int .i64) (.prod (.int .i64) (.prod (.int .i64) (.prod (.sl 0 (.int .u64)) (.sl 0 (.int .i64))))))))) (.sl 0 (.prod (.int .i64) (.prod (.int .i64) (.prod (.int .i64) (.prod (.int .i64) (.prod (.int .i64) (.prod (.sl 0 (.int .u64)) (.sl 0 (.int .i64)))))))))))
theorem szLiteralS_gd {l : List tLiteral} (h : Gd (.sl 0 yLiteral) l) : ∀ y : tLiteral, y ∈ l -> y.2.2.1.length <= 9223372036854775807 /\ (∀ z : tTNode, z ∈ y.2.2.1 -> z.2.2.2.2.2.1.length <= 9223372036854775807 /\ z.2.2.2.2.2.2.length <= 9223372036854775807) /\ y.2.2.2.length <= 9223372036854775807 /\ (∀ z : tTNode, z ∈ y.2.2.2 -> z.2.2.2.2.2.1.length <= 9223372036854775807 /\ z.2.2.2.2.2.2.length <= 9223372036854775807) := fun y hy => ⟨(h.2 y hy).2.2.1.1, (fun z hz => ⟨((h.2 y hy).2.2.1.2 z hz).2.2.2.2.2.1.1, ((h.2 y hy).2.2.1.2 z hz).2.2.2.2.2.2.1⟩), (h.2 y hy).2.2.2.1, (fun z hz => ⟨((h.2 y hy).2.2.2.2 z hz).2.2.2.2.2.1.1, ((h.2 y hy).2.2.2.2 z hz).2.2.2.2.2.2.1⟩)⟩
theorem Z42_lp {l : List tLiteral} (hl : l.length <= 9223372036854775807) : ∀ (ys : List tLiteral) (x left : Int), l.drop x.toNat = ys -> 0 <= x -> 0 <= left -> left <= 1099511627776 -> (∀ y ∈ ys, y.2.2.1.length <= 9223372036854775807 /\ (∀ z : tTNode, z ∈ y.2.2.1 -> z.2.2.2.2.2.1.length <= 9223372036854775807 /\ z.2.2.2.2.2.2.length <= 9223372036854775807) /\ y.2.2.2.length <= 9223372036854775807 /\ (∀ z : tTNode, z ∈ y.2.2.2 -> z.2.2.2.2.2.1.length <= 9223372036854775807 /\ z.2.2.2.2.2.2.length <= 9223372036854775807)) -> ∀ (Kx : Nat -> Int -> Prop),
  (Ev (fun n => Z42.l5 n l left x (Kx n) (Kx n)) ↔ Ev (fun n => Kx n (szr left (sLiteralS ys))))
 | [], x, left, h, h0, h1, h2, hy, Kx => by
  have := drop_nil h h0
  refine Ev.suc.trans ?_
  simp (disch := omega) only [Z42.l5, Z42.l5.b, if_neg, decide_eq_true_eq, Ev.s1 Kx, sLiteralS]
  refine ev_arg ?_; unfold szr; split <;> omega
 | y :: ys, x, left, h, h0, h1, h2, hy, Kx => by
  obtain ⟨e1, e2, e3⟩ := drop_cons h h0
  have hy0 := hy y List.mem_cons_self
  refine Ev.suc.trans ?_
  simp (disch := first | assumption | exact hy0.1 | exact hy0.2 | exact hy0.2.1 | exact hy0.2.2 | exact hy0.2.2.1 | exact hy0.2.2.2 | omega) only [Z42.l5, Z42.l5.b, if_pos, decide_eq_true_eq, Ev.s1 Kx, grd_dec2, e2, Z41_ev, Ev.iteI, wrap64]
  split
  ·rename_i hs
   rw [sLiteralS, szr_back hs]
  ·rename_i hs
   rw [Z42_lp hl ys (x + 1) _ e3 (by omega) (by omega) (szr_le' (by omega) h2) (fun y hy' => hy y (List.mem_cons_of_mem _ hy')), sLiteralS, szr_two h1 hs, Ev.s1 Kx]
theorem Z42_ev {l : List tLiteral} {left : Int} (h0 : -1 <= left) (h1 : left <= 1099511627776) (hl : l.length <= 9223372036854775807) (hy : ∀ y ∈ l, y.2.2.1.length <= 9223372036854775807 /\ (∀ z : tTNode, z ∈ y.2.2.1 -> z.2.2.2.2.2.1.length <= 9223372036854775807 /\ z.2.2.2.2.2.2.length <= 9223372036854775807) /\ y.2.2.2.length <= 9223372036854775807 /\ (∀ z : tTNode, z ∈ y.2.2.2 -> z.2.2.2.2.2.1.length <= 9223372036854775807 /\ z.2.2.2.2.2.2.length <= 9223372036854775807)) (R : Nat -> Int -> Prop) :
  Ev (fun n => Z42.c n l left (R n)) ↔ Ev (fun n => R n (szr left (l.length + sLiteralS l))) := by
 refine Ev.suc.trans ?_
 simp (disch := omega) only [Z42.c, Z42.w, wrap64, Ev.iteI, decide_eq_true_eq, Ev.s1 R]
 split
 ·refine ev_arg ?_; unfold szr; split <;> omega
 ·rw [Z42_lp hl l 0 _ rfl (by omega) (by omega) (by omega) hy, Ev.s1 R]
  refine ev_arg ?_; unfold szr; (repeat' split) <;> omega
theorem Z48_ev {a0 : List UInt8} {a1 : Int} (h : a0.length <= 1048576) (R : Nat -> List UInt8 -> Int -> Prop) :
  Ev (fun n => Z48.c n a0 a1 (R n)) ↔ Ev (fun n => R n a0 a1) := by
 refine Ev.suc.trans ?_
 simp (disch := omega) only [Z48.c, Z48.w, Ev.s2 R]
theorem Z49_lp {l : List tDecl} (hl : l.length <= 1048576) : ∀ (ys : List tDecl) (x : Int) (o : List tDecl), l.drop x.toNat = ys -> 0 <= x -> o.length = l.length -> (∀ y ∈ ys, y.1.length <= 1048576) -> ∀ (Kx : Nat -> List tDecl -> Prop),
  (Ev (fun n => Z49.l3 n l x o (Kx n)) ↔ Ev (fun n => Kx n (o.take x.toNat ++ ys)))
 | [], x, o, h, h0, ho, hy, Kx => by
  have := drop_nil h h0
  refine Ev.suc.trans ?_
  simp (disch := omega) only [Z49.l3, Z49.l3.b, if_neg, decide_eq_true_eq, Ev.s1 Kx]
  rw [List.take_of_length_le (by omega), List.append_nil]
 | y :: ys, x, o, h, h0, ho, hy, Kx => by
  obtain ⟨e1, e2, e3⟩ := drop_cons h h0
  have hy0 := hy y List.mem_cons_self
  refine Ev.suc.trans ?_
  simp (disch := omega) only [Z49.l3, Z49.l3.b, if_pos, decide_eq_true_eq, Ev.s1 Kx, grd_dec2, e2, wrap64, Z48_ev]
  rw [Z49_lp hl ys (x + 1) _ e3 (by omega) (by simpa using ho) (fun y hy' => hy y (List.mem_cons_of_mem _ hy')), Ev.s1 Kx, take_set (by omega) (by omega), List.append_assoc]
  rfl
theorem Z49_ev {l : List tDecl} (h : (l.length + sDeclS l) <= 1048576) (R : Nat -> List tDecl -> Prop) :
  Ev (fun n => Z49.c n l (R n)) ↔ Ev (fun n => R n l) := by
 refine Ev.suc.trans ?_
 simp (disch := omega) only [Z49.c, Z49.w, grd_dec2, decide_true, Bool.and_true]
 rw [Z49_lp (by omega) l 0 _ rfl (by omega) (by simp) (fun y hy => by have := sDeclS_mem hy; omega), Ev.s1 R]
 simp
theorem Z56_lp {l : List Int} (hl : l.length <= 1048576) : ∀ (ys : List Int) (x : Int) (o : List Int), l.drop x.toNat = ys -> 0 <= x -> o.length = l.length -> ∀ (Kx : Nat -> List Int -> Prop),
  (Ev (fun n => Z56.l3 n l x o (Kx n)) ↔ Ev (fun n => Kx n (o.take x.toNat ++ ys)))
 | [], x, o, h, h0, ho, Kx => by
  have := drop_nil h h0
  refine Ev.suc.trans ?_
  simp (disch := omega) only [Z56.l3, Z56.l3.b, if_neg, decide_eq_true_eq, Ev.s1 Kx]
  rw [List.take_of_length_le (by omega), List.append_nil]
 | y :: ys, x, o, h, h0, ho, Kx => by
  obtain ⟨e1, e2, e3⟩ := drop_cons h h0
  refine Ev.suc.trans ?_
  simp (disch := omega) only [Z56.l3, Z56.l3.b, if_pos, decide_eq_true_eq, Ev.s1 Kx, grd_dec2, e2, wrap64]
  rw [Z56_lp hl ys (x + 1) _ e3 (by omega) (by simpa using ho), Ev.s1 Kx, take_set (by omega) (by omega), List.append_assoc]
  rfl
theorem Z56_ev {l : List Int} (h : l.length <= 1048576) (R : Nat -> List Int -> Prop) :
  Ev (fun n => Z56.c n l (R n)) ↔ Ev (fun n => R n l) := by
 refine Ev.suc.trans ?_
 simp (disch := omega) only [Z56.c, Z56.w, grd_dec2, decide_true, Bool.and_true]
 rw [Z56_lp (by omega) l 0 _ rfl (by omega) (by simp), Ev.s1 R]
 simp
theorem Z47_ev {a0 : Int} {a1 : List Int} (h : a1.length <= 1048576) (R : Nat -> Int -> List Int -> Prop) :
  Ev (fun n => Z47.c n a0 a1 (R n)) ↔ Ev (fun n => R n a0 a1) := by
 refine Ev.suc.trans ?_
 simp (disch := omega) only [Z47.c, Z47.w, Z56_ev, Ev.s2 R]
theorem Z50_lp {l : List Int} (hl : l.length <= 1048576) : ∀ (ys : List Int) (x : Int) (o : List Int), l.drop x.toNat = ys -> 0 <= x -> o.length = l.length -> ∀ (Kx : Nat -> List Int -> Prop),
  (Ev (fun n => Z50.l3 n l x o (Kx n)) ↔ Ev (fun n => Kx n (o.take x.toNat ++ ys)))
 | [], x, o, h, h0, ho, Kx => by
  have := drop_nil h h0
  refine Ev.suc.trans ?_
  simp (disch := omega) only [Z50.l3, Z50.l3.b, if_neg, decide_eq_true_eq, Ev.s1 Kx]
  rw [List.take_of_length_le (by omega), List.append_nil]
 | y :: ys, x, o, h, h0, ho, Kx => by
  obtain ⟨e1, e2, e3⟩ := drop_cons h h0
  refine Ev.suc.trans ?_
  simp (disch := omega) only [Z50.l3, Z50.l3.b, if_pos, decide_eq_true_eq, Ev.s1 Kx, grd_dec2, e2, wrap64]
  rw [Z50_lp hl ys (x + 1) _ e3 (by omega) (by simpa using ho), Ev.s1 Kx, take_set (by omega) (by omega), List.append_assoc]
  rfl
theorem Z50_ev {l : List Int} (h : l.length <= 1048576) (R : Nat -> List Int -> Prop) :
  Ev (fun n => Z50.c n l (R n)) ↔ Ev (fun n => R n l) := by
 refine Ev.suc.trans ?_
 simp (disch := omega) only [Z50.c, Z50.w, grd_dec2, decide_true, Bool.and_true]
 rw [Z50_lp (by omega) l 0 _ rfl (by omega) (by simp), Ev.s1 R]
 simp
theorem Z53_ev {a0 : Int} {a1 : Int} {a2 : Int} {a3 : Int} {a4 : Int} {a5 : List Int} {a6 : List Int} (h : a5.length + a6.length <= 1048576) (R : Nat -> Int -> Int -> Int -> Int -> Int -> List Int -> List Int -> Prop) :
  Ev (fun n => Z53.c n a0 a1 a2 a3 a4 a5 a6 (R n)) ↔ Ev (fun n => R n a0 a1 a2 a3 a4 a5 a6) := by
 refine Ev.suc.trans ?_
 simp (disch := omega) only [Z53.c, Z53.w, Z47_ev, Z50_ev, Ev.s7 R]
theorem Z54_lp {l : List tTNode} (hl : l.length <= 1048576) : ∀ (ys : List tTNode) (x : Int) (o : List tTNode), l.drop x.toNat = ys -> 0 <= x -> o.length = l.length -> (∀ y ∈ ys, y.2.2.2.2.2.1.length + y.2.2.2.2.2.2.length <= 1048576) -> ∀ (Kx : Nat -> List tTNode -> Prop),
  (Ev (fun n => Z54.l3 n l x o (Kx n)) ↔ Ev (fun n => Kx n (o.take x.toNat ++ ys)))
 | [], x, o, h, h0, ho, hy, Kx => by
  have := drop_nil h h0
  refine Ev.suc.trans ?_
  simp (disch := omega) only [Z54.l3, Z54.l3.b, if_neg, decide_eq_true_eq, Ev.s1 Kx]
  rw [List.take_of_length_le (by omega), List.append_nil]
 | y :: ys, x, o, h, h0, ho, hy, Kx => by
  obtain ⟨e1, e2, e3⟩ := drop_cons h h0
  have hy0 := hy y List.mem_cons_self
  refine Ev.suc.trans ?_
  simp (disch := omega) only [Z54.l3, Z54.l3.b, if_pos, decide_eq_true_eq, Ev.s1 Kx, grd_dec2, e2, wrap64, Z53_ev]
  rw [Z54_lp hl ys (x + 1) _ e3 (by omega) (by simpa using ho) (fun y hy' => hy y (List.mem_cons_of_mem _ hy')), Ev.s1 Kx, take_set (by omega) (by omega), List.append_assoc]
  rfl
theorem Z54_ev {l : List tTNode} (h : (l.length + sTNodeS l) <= 1048576) (R : Nat -> List tTNode -> Prop) :
  Ev (fun n => Z54.c n l (R n)) ↔ Ev (fun n => R n l) := by
 refine Ev.suc.trans ?_
 simp (disch := omega) only [Z54.c, Z54.w, grd_dec2, decide_true, Bool.and_true]
 rw [Z54_lp (by omega) l 0 _ rfl (by omega) (by simp) (fun y hy => by have := sTNodeS_mem hy; omega), Ev.s1 R]
 simp
theorem Z55_ev {a0 : List (Int × Int × Int × Int × Int × List (Int) × List (Int))} (h : (a0.length + sTNodeS a0) <= 1048576) (R : Nat -> List (Int × Int × Int × Int × Int × List (Int) × List (Int)) -> Prop) :
  Ev (fun n => Z55.c n a0 (R n)) ↔ Ev (fun n => R n a0) := by
 refine Ev.suc.trans ?_
 simp (disch := omega) only [Z55.c, Z55.w, Z54_ev, Ev.s1 R]
theorem Z51_ev {a0 : Int} {a1 : Bool} {a2 : List (Int × Int × Int × Int × Int × List (Int) × List (Int))} {a3 : List (Int × Int × Int × Int × Int × List (Int) × List (Int))} (h : ((a2.length + sTNodeS a2)) + ((a3.length + sTNodeS a3)) <= 1048576) (R : Nat -> Int -> Bool -> List (Int × Int × Int × Int × Int × List (Int) × List (Int)) -> List (Int × Int × Int × Int × Int × List (Int) × List (Int)) -> Prop) :
  Ev (fun n => Z51.c n a0 a1 a2 a3 (R n)) ↔ Ev (fun n => R n a0 a1 a2 a3) := by
 refine Ev.suc.trans ?_
 simp (disch := omega) only [Z51.c, Z51.w, Z55_ev, Ev.s4 R]
theorem Z52_lp {l : List tLiteral} (hl : l.length <= 1048576) : ∀ (ys : List tLiteral) (x : Int) (o : List tLiteral), l.drop x.toNat = ys -> 0 <= x -> o.length = l.length -> (∀ y ∈ ys, ((y.2.2.1.length + sTNodeS y.2.2.1)) + ((y.2.2.2.length + sTNodeS y.2.2.2)) <= 1048576) -> ∀ (Kx : Nat -> List tLiteral -> Prop),
  (Ev (fun n => Z52.l3 n l x o (Kx n)) ↔ Ev (fun n => Kx n (o.take x.toNat ++ ys)))
 | [], x, o, h, h0, ho, hy, Kx => by
  have := drop_nil h h0
  refine Ev.suc.trans ?_
  simp (disch := omega) only [Z52.l3, Z52.l3.b, if_neg, decide_eq_true_eq, Ev.s1 Kx]
  rw [List.take_of_length_le (by omega), List.append_nil]
 | y :: ys, x, o, h, h0, ho, hy, Kx => by
  obtain ⟨e1, e2, e3⟩ := drop_cons h h0
  have hy0 := hy y List.mem_cons_self
  refine Ev.suc.trans ?_
  simp (disch := omega) only [Z52.l3, Z52.l3.b, if_pos, decide_eq_true_eq, Ev.s1 Kx, grd_dec2, e2, wrap64, Z51_ev]
  rw [Z52_lp hl ys (x + 1) _ e3 (by omega) (by simpa using ho) (fun y hy' => hy y (List.mem_cons_of_mem _ hy')), Ev.s1 Kx, take_set (by omega) (by omega), List.append_assoc]
  rfl
theorem Z52_ev {l : List tLiteral} (h : (l.length + sLiteralS l) <= 1048576) (R : Nat -> List tLiteral -> Prop) :
  Ev (fun n => Z52.c n l (R n)) ↔ Ev (fun n => R n l) := by
 refine Ev.suc.trans ?_
 simp (disch := omega) only [Z52.c, Z52.w, grd_dec2, decide_true, Bool.and_true]
 rw [Z52_lp (by omega) l 0 _ rfl (by omega) (by simp) (fun y hy => by have := sLiteralS_mem hy; omega), Ev.s1 R]
 simp
theorem Z22_lp {l l' : List Int} (hl : l.length <= 1099511627776) (hll : l.length = l'.length) : ∀ (ys ys' : List Int) (x : Int), l.drop x.toNat = ys -> l'.drop x.toNat = ys' -> 0 <= x -> ∀ (Kx : Nat -> Prop) (Kr : Nat -> Bool -> Prop),
  (Ev (fun n => Z22.l4 n l l' x (Kx n) (Kr n)) ↔ if ys = ys' then Ev Kx else Ev (fun n => Kr n false))
 | [], [], x, h, h', h0, Kx, Kr => by
  have := drop_nil h h0
  refine Ev.suc.trans ?_
  simp (disch := omega) only [Z22.l4, Z22.l4.b, if_neg, decide_eq_true_eq, Ev.s0 Kx, if_true]
 | [], y' :: ys', x, h, h', h0, Kx, Kr => by
  have := drop_nil h h0; have := (drop_cons h' h0).1; omega
 | y :: ys, [], x, h, h', h0, Kx, Kr => by
  have := drop_nil h' h0; have := (drop_cons h h0).1; omega
 | y :: ys, y' :: ys', x, h, h', h0, Kx, Kr => by
  obtain ⟨e1, e2, e3⟩ := drop_cons h h0
  obtain ⟨_, f2, f3⟩ := drop_cons h' h0
  refine Ev.suc.trans ?_
  simp (disch := first | assumption | exact hy0.1 | exact hy0.2 | exact hy0.2.1 | exact hy0.2.2 | exact hy0.2.2.1 | exact hy0.2.2.2 | omega) only [Z22.l4, Z22.l4.b, if_pos, decide_eq_true_eq, Ev.s0 Kx, Ev.s1 Kr, grd_dec2, e2, f2, wrap64, Ev.iteI, Bool.not_eq_true', decide_eq_false_iff_not]
  rw [Z22_lp hl hll ys ys' (x + 1) e3 f3 (by omega), Ev.s0 Kx, Ev.s1 Kr]
  simp only [List.cons.injEq, Prod.ext_iff]
  (repeat' split) <;> first | rfl | (exfalso; simp_all; done)
theorem Z22_ev {l l' : List Int} (hl : l.length <= 1099511627776) (R : Nat -> Bool -> Prop) :
  Ev (fun n => Z22.c n l l' (R n)) ↔ Ev (fun n => R n (decide (l = l'))) := by
 refine Ev.suc.trans ?_
 simp (disch := omega) only [Z22.c, Z22.w, Ev.iteI, Bool.not_eq_true', decide_eq_false_iff_not, Ev.s1 R]
 split
 ·rw [decide_eq_false]; intro e; subst e; omega
 ·rw [Z22_lp hl (by omega) l l' 0 rfl rfl (by omega), Ev.s1 R, Ev.s1 R]
  split
  ·rw [decide_eq_true ‹_›]
  ·rw [decide_eq_false ‹_›]
theorem Z20_ev {a0 b0 : List UInt8} {a1 b1 : Int} (R : Nat -> Bool -> Prop) :
  Ev (fun n => Z20.c n a0 a1 b0 b1 (R n)) ↔ Ev (fun n => R n (decide (a0 = b0 /\ a1 = b1))) := by
 refine Ev.suc.trans ?_
 simp (disch := first | assumption | omega) only [Z20.c, Z20.w, Ev.iteI, Bool.not_eq_true', decide_eq_false_iff_not, beq_eq_false_iff_ne, ne_eq, Ev.s1 R]
 (repeat' split) <;> first | (rw [decide_eq_false]; simp_all; done) | (rw [decide_eq_true]; simp_all; done)
theorem Z21_lp {l l' : List tDecl} (hl : l.length <= 1099511627776) (hll : l.length = l'.length) : ∀ (ys ys' : List tDecl) (x : Int), l.drop x.toNat = ys -> l'.drop x.toNat = ys' -> 0 <= x -> ∀ (Kx : Nat -> Prop) (Kr : Nat -> Bool -> Prop),
  (Ev (fun n => Z21.l4 n l l' x (Kx n) (Kr n)) ↔ if ys = ys' then Ev Kx else Ev (fun n => Kr n false))
 | [], [], x, h, h', h0, Kx, Kr => by
  have := drop_nil h h0
  refine Ev.suc.trans ?_
  simp (disch := omega) only [Z21.l4, Z21.l4.b, if_neg, decide_eq_true_eq, Ev.s0 Kx, if_true]
 | [], y' :: ys', x, h, h', h0, Kx, Kr => by
  have := drop_nil h h0; have := (drop_cons h' h0).1; omega
 | y :: ys, [], x, h, h', h0, Kx, Kr => by
  have := drop_nil h' h0; have := (drop_cons h h0).1; omega
 | y :: ys, y' :: ys', x, h, h', h0, Kx, Kr => by
  obtain ⟨e1, e2, e3⟩ := drop_cons h h0
  obtain ⟨_, f2, f3⟩ := drop_cons h' h0
  refine Ev.suc.trans ?_
  simp (disch := first | assumption | exact hy0.1 | exact hy0.2 | exact hy0.2.1 | exact hy0.2.2 | exact hy0.2.2.1 | exact hy0.2.2.2 | omega) only [Z21.l4, Z21.l4.b, if_pos, decide_eq_true_eq, Ev.s0 Kx, Ev.s1 Kr, grd_dec2, e2, f2, wrap64, Z20_ev, Ev.iteI, Bool.not_eq_true', decide_eq_false_iff_not]
  rw [Z21_lp hl hll ys ys' (x + 1) e3 f3 (by omega), Ev.s0 Kx, Ev.s1 Kr]
  simp only [List.cons.injEq, Prod.ext_iff]
  (repeat' split) <;> first | rfl | (exfalso; simp_all; done)
theorem Z21_ev {l l' : List tDecl} (hl : l.length <= 1099511627776) (R : Nat -> Bool -> Prop) :
  Ev (fun n => Z21.c n l l' (R n)) ↔ Ev (fun n => R n (decide (l = l'))) := by
 refine Ev.suc.trans ?_
 simp (disch := omega) only [Z21.c, Z21.w, Ev.iteI, Bool.not_eq_true', decide_eq_false_iff_not, Ev.s1 R]
 split
 ·rw [decide_eq_false]; intro e; subst e; omega
 ·rw [Z21_lp hl (by omega) l l' 0 rfl rfl (by omega), Ev.s1 R, Ev.s1 R]
  split
  ·rw [decide_eq_true ‹_›]
  ·rw [decide_eq_false ‹_›]
theorem Z28_lp {l l' : List Int} (hl : l.length <= 1099511627776) (hll : l.length = l'.length) : ∀ (ys ys' : List Int) (x : Int), l.drop x.toNat = ys -> l'.drop x.toNat = ys' -> 0 <= x -> ∀ (Kx : Nat -> Prop) (Kr : Nat -> Bool -> Prop),
  (Ev (fun n => Z28.l4 n l l' x (Kx n) (Kr n)) ↔ if ys = ys' then Ev Kx else Ev (fun n => Kr n false))
 | [], [], x, h, h', h0, Kx, Kr => by
  have := drop_nil h h0
  refine Ev.suc.trans ?_
  simp (disch := omega) only [Z28.l4, Z28.l4.b, if_neg, decide_eq_true_eq, Ev.s0 Kx, if_true]
 | [], y' :: ys', x, h, h', h0, Kx, Kr => by
  have := drop_nil h h0; have := (drop_cons h' h0).1; omega
 | y :: ys, [], x, h, h', h0, Kx, Kr => by
  have := drop_nil h' h0; have := (drop_cons h h0).1; omega
 | y :: ys, y' :: ys', x, h, h', h0, Kx, Kr => by
  obtain ⟨e1, e2, e3⟩ := drop_cons h h0
  obtain ⟨_, f2, f3⟩ := drop_cons h' h0
  refine Ev.suc.trans ?_
  simp (disch := first | assumption | exact hy0.1 | exact hy0.2 | exact hy0.2.1 | exact hy0.2.2 | exact hy0.2.2.1 | exact hy0.2.2.2 | omega) only [Z28.l4, Z28.l4.b, if_pos, decide_eq_true_eq, Ev.s0 Kx, Ev.s1 Kr, grd_dec2, e2, f2, wrap64, Ev.iteI, Bool.not_eq_true', decide_eq_false_iff_not]
  rw [Z28_lp hl hll ys ys' (x + 1) e3 f3 (by omega), Ev.s0 Kx, Ev.s1 Kr]
  simp only [List.cons.injEq, Prod.ext_iff]
  (repeat' split) <;> first | rfl | (exfalso; simp_all; done)
theorem Z28_ev {l l' : List Int} (hl : l.length <= 1099511627776) (R : Nat -> Bool -> Prop) :
  Ev (fun n => Z28.c n l l' (R n)) ↔ Ev (fun n => R n (decide (l = l'))) := by
 refine Ev.suc.trans ?_
 simp (disch := omega) only [Z28.c, Z28.w, Ev.iteI, Bool.not_eq_true', decide_eq_false_iff_not, Ev.s1 R]
 split
 ·rw [decide_eq_false]; intro e; subst e; omega
 ·rw [Z28_lp hl (by omega) l l' 0 rfl rfl (by omega), Ev.s1 R, Ev.s1 R]
  split
  ·rw [decide_eq_true ‹_›]
  ·rw [decide_eq_false ‹_›]
theorem Z19_ev {a0 b0 : Int} {a1 b1 : List Int} (h0 : a1.length <= 1099511627776) (R : Nat -> Bool -> Prop) :
  Ev (fun n => Z19.c n a0 a1 b0 b1 (R n)) ↔ Ev (fun n => R n (decide (a0 = b0 /\ a1 = b1))) := by
 refine Ev.suc.trans ?_
 simp (disch := first | assumption | omega) only [Z19.c, Z19.w, Z28_ev, Ev.iteI, Bool.not_eq_true', decide_eq_false_iff_not, beq_eq_false_iff_ne, ne_eq, Ev.s1 R]
 (repeat' split) <;> first | (rw [decide_eq_false]; simp_all; done) | (rw [decide_eq_true]; simp_all; done)
theorem Z25_ev {a0 b0 : Int} {a1 b1 : Int} {a2 b2 : Int} {a3 b3 : Int} {a4 b4 : Int} {a5 b5 : List Int} {a6 b6 : List Int} (h0 : a5.length <= 1099511627776) (h1 : a6.length <= 1099511627776) (R : Nat -> Bool -> Prop) :
  Ev (fun n => Z25.c n a0 a1 a2 a3 a4 a5 a6 b0 b1 b2 b3 b4 b5 b6 (R n)) ↔ Ev (fun n => R n (decide (a0 = b0 /\ a1 = b1 /\ a2 = b2 /\ a3 = b3 /\ a4 = b4 /\ a5 = b5 /\ a6 = b6))) := by
 refine Ev.suc.trans ?_
 simp (disch := first | assumption | omega) only [Z25.c, Z25.w, Z19_ev, Z22_ev, Ev.iteI, Bool.not_eq_true', decide_eq_false_iff_not, beq_eq_false_iff_ne, ne_eq, Ev.s1 R]
 (repeat' split) <;> first | (rw [decide_eq_false]; simp_all; done) | (rw [decide_eq_true]; simp_all; done)
theorem Z26_lp {l l' : List tTNode} (hl : l.length <= 1099511627776) (hll : l.length = l'.length) : ∀ (ys ys' : List tTNode) (x : Int), l.drop x.toNat = ys -> l'.drop x.toNat = ys' -> 0 <= x -> (∀ y ∈ ys, y.2.2.2.2.2.1.length <= 1099511627776 /\ y.2.2.2.2.2.2.length <= 1099511627776) -> ∀ (Kx : Nat -> Prop) (Kr : Nat -> Bool -> Prop),
  (Ev (fun n => Z26.l4 n l l' x (Kx n) (Kr n)) ↔ if ys = ys' then Ev Kx else Ev (fun n => Kr n false))
 | [], [], x, h, h', h0, hy, Kx, Kr => by
  have := drop_nil h h0
  refine Ev.suc.trans ?_
  simp (disch := omega) only [Z26.l4, Z26.l4.b, if_neg, decide_eq_true_eq, Ev.s0 Kx, if_true]
 | [], y' :: ys', x, h, h', h0, hy, Kx, Kr => by
  have := drop_nil h h0; have := (drop_cons h' h0).1; omega
 | y :: ys, [], x, h, h', h0, hy, Kx, Kr => by
  have := drop_nil h' h0; have := (drop_cons h h0).1; omega
 | y :: ys, y' :: ys', x, h, h', h0, hy, Kx, Kr => by
  obtain ⟨e1, e2, e3⟩ := drop_cons h h0
  obtain ⟨_, f2, f3⟩ := drop_cons h' h0
  have hy0 := hy y List.mem_cons_self
  refine Ev.suc.trans ?_
  simp (disch := first | assumption | exact hy0.1 | exact hy0.2 | exact hy0.2.1 | exact hy0.2.2 | exact hy0.2.2.1 | exact hy0.2.2.2 | omega) only [Z26.l4, Z26.l4.b, if_pos, decide_eq_true_eq, Ev.s0 Kx, Ev.s1 Kr, grd_dec2, e2, f2, wrap64, Z25_ev, Ev.iteI, Bool.not_eq_true', decide_eq_false_iff_not]
  rw [Z26_lp hl hll ys ys' (x + 1) e3 f3 (by omega) (fun y hy' => hy y (List.mem_cons_of_mem _ hy')), Ev.s0 Kx, Ev.s1 Kr]
  simp only [List.cons.injEq, Prod.ext_iff]
  (repeat' split) <;> first | rfl | (exfalso; simp_all; done)
theorem Z26_ev {l l' : List tTNode} (hl : l.length <= 1099511627776) (hy : ∀ y ∈ l, y.2.2.2.2.2.1.length <= 1099511627776 /\ y.2.2.2.2.2.2.length <= 1099511627776) (R : Nat -> Bool -> Prop) :
  Ev (fun n => Z26.c n l l' (R n)) ↔ Ev (fun n => R n (decide (l = l'))) := by
 refine Ev.suc.trans ?_
 simp (disch := omega) only [Z26.c, Z26.w, Ev.iteI, Bool.not_eq_true', decide_eq_false_iff_not, Ev.s1 R]
 split
 ·rw [decide_eq_false]; intro e; subst e; omega
 ·rw [Z26_lp hl (by omega) l l' 0 rfl rfl (by omega) hy, Ev.s1 R, Ev.s1 R]
  split
  ·rw [decide_eq_true ‹_›]
  ·rw [decide_eq_false ‹_›]
theorem Z27_ev {a0 b0 : List (Int × Int × Int × Int × Int × List (Int) × List (Int))} (h0 : a0.length <= 1099511627776) (h1 : (∀ y : tTNode, y ∈ a0 -> y.2.2.2.2.2.1.length <= 1099511627776 /\ y.2.2.2.2.2.2.length <= 1099511627776)) (R : Nat -> Bool -> Prop) :
  Ev (fun n => Z27.c n a0 b0 (R n)) ↔ Ev (fun n => R n (decide (a0 = b0))) := by
 refine Ev.suc.trans ?_
 simp (disch := first | assumption | omega) only [Z27.c, Z27.w, Z26_ev, Ev.iteI, Bool.not_eq_true', decide_eq_false_iff_not, beq_eq_false_iff_ne, ne_eq, Ev.s1 R]
 (repeat' split) <;> first | (rw [decide_eq_false]; simp_all; done) | (rw [decide_eq_true]; simp_all; done)
theorem Z23_ev {a0 b0 : Int} {a1 b1 : Bool} {a2 b2 : List (Int × Int × Int × Int × Int × List (Int) × List (Int))} {a3 b3 : List (Int × Int × Int × Int × Int × List (Int) × List (Int))} (h0 : a2.length <= 1099511627776) (h1 : (∀ y : tTNode, y ∈ a2 -> y.2.2.2.2.2.1.length <= 1099511627776 /\ y.2.2.2.2.2.2.length <= 1099511627776)) (h2 : a3.length <= 1099511627776) (h3 : (∀ y : tTNode, y ∈ a3 -> y.2.2.2.2.2.1.length <= 1099511627776 /\ y.2.2.2.2.2.2.length <= 1099511627776)) (R : Nat -> Bool -> Prop) :
  Ev (fun n => Z23.c n a0 a1 a2 a3 b0 b1 b2 b3 (R n)) ↔ Ev (fun n => R n (decide (a0 = b0 /\ a1 = b1 /\ a2 = b2 /\ a3 = b3))) := by
 refine Ev.suc.trans ?_
 simp (disch := first | assumption | omega) only [Z23.c, Z23.w, Z27_ev, Ev.iteI, Bool.not_eq_true', decide_eq_false_iff_not, beq_eq_false_iff_ne, ne_eq, Ev.s1 R]
 (repeat' split) <;> first | (rw [decide_eq_false]; simp_all; done) | (rw [decide_eq_true]; simp_all; done)
theorem Z24_lp {l l' : List tLiteral} (hl : l.length <= 1099511627776) (hll : l.length = l'.length) : ∀ (ys ys' : List tLiteral) (x : Int), l.drop x.toNat = ys -> l'.drop x.toNat = ys' -> 0 <= x -> (∀ y ∈ ys, y.2.2.1.length <= 1099511627776 /\ (∀ z : tTNode, z ∈ y.2.2.1 -> z.2.2.2.2.2.1.length <= 1099511627776 /\ z.2.2.2.2.2.2.length <= 1099511627776) /\ y.2.2.2.length <= 1099511627776 /\ (∀ z : tTNode, z ∈ y.2.2.2 -> z.2.2.2.2.2.1.length <= 1099511627776 /\ z.2.2.2.2.2.2.length <= 1099511627776)) -> ∀ (Kx : Nat -> Prop) (Kr : Nat -> Bool -> Prop),
  (Ev (fun n => Z24.l4 n l l' x (Kx n) (Kr n)) ↔ if ys = ys' then Ev Kx else Ev (fun n => Kr n false))
 | [], [], x, h, h', h0, hy, Kx, Kr => by
  have := drop_nil h h0
  refine Ev.suc.trans ?_
  simp (disch := omega) only [Z24.l4, Z24.l4.b, if_neg, decide_eq_true_eq, Ev.s0 Kx, if_true]
 | [], y' :: ys', x, h, h', h0, hy, Kx, Kr => by
  have := drop_nil h h0; have := (drop_cons h' h0).1; omega
 | y :: ys, [], x, h, h', h0, hy, Kx, Kr => by
  have := drop_nil h' h0; have := (drop_cons h h0).1; omega
 | y :: ys, y' :: ys', x, h, h', h0, hy, Kx, Kr => by
  obtain ⟨e1, e2, e3⟩ := drop_cons h h0
  obtain ⟨_, f2, f3⟩ := drop_cons h' h0
  have hy0 := hy y List.mem_cons_self
  refine Ev.suc.trans ?_
  simp (disch := first | assumption | exact hy0.1 | exact hy0.2 | exact hy0.2.1 | exact hy0.2.2 | exact hy0.2.2.1 | exact hy0.2.2.2 | omega) only [Z24.l4, Z24.l4.b, if_pos, decide_eq_true_eq, Ev.s0 Kx, Ev.s1 Kr, grd_dec2, e2, f2, wrap64, Z23_ev, Ev.iteI, Bool.not_eq_true', decide_eq_false_iff_not]
  rw [Z24_lp hl hll ys ys' (x + 1) e3 f3 (by omega) (fun y hy' => hy y (List.mem_cons_of_mem _ hy')), Ev.s0 Kx, Ev.s1 Kr]
  simp only [List.cons.injEq, Prod.ext_iff]
  (repeat' split) <;> first | rfl | (exfalso; simp_all; done)
theorem Z24_ev {l l' : List tLiteral} (hl : l.length <= 1099511627776) (hy : ∀ y ∈ l, y.2.2.1.length <= 1099511627776 /\ (∀ z : tTNode, z ∈ y.2.2.1 -> z.2.2.2.2.2.1.length <= 1099511627776 /\ z.2.2.2.2.2.2.length <= 1099511627776) /\ y.2.2.2.length <= 1099511627776 /\ (∀ z : tTNode, z ∈ y.2.2.2 -> z.2.2.2.2.2.1.length <= 1099511627776 /\ z.2.2.2.2.2.2.length <= 1099511627776)) (R : Nat -> Bool -> Prop) :
  Ev (fun n => Z24.c n l l' (R n)) ↔ Ev (fun n => R n (decide (l = l'))) := by
 refine Ev.suc.trans ?_
 simp (disch := omega) only [Z24.c, Z24.w, Ev.iteI, Bool.not_eq_true', decide_eq_false_iff_not, Ev.s1 R]
 split
 ·rw [decide_eq_false]; intro e; subst e; omega
 ·rw [Z24_lp hl (by omega) l l' 0 rfl rfl (by omega) hy, Ev.s1 R, Ev.s1 R]
  split
  ·rw [decide_eq_true ‹_›]
  ·rw [decide_eq_false ‹_›]
theorem eqLiteralS_of {l : List tLiteral} (h : (l.length + sLiteralS l) <= 1099511627776) : ∀ y : tLiteral, y ∈ l -> y.2.2.1.length <= 1099511627776 /\ (∀ z : tTNode, z ∈ y.2.2.1 -> z.2.2.2.2.2.1.length <= 1099511627776 /\ z.2.2.2.2.2.2.length <= 1099511627776) /\ y.2.2.2.length <= 1099511627776 /\ (∀ z : tTNode, z ∈ y.2.2.2 -> z.2.2.2.2.2.1.length <= 1099511627776 /\ z.2.2.2.2.2.2.length <= 1099511627776) := by
 intro y hy
 have := sLiteralS_mem hy
 exact ⟨(by omega), (fun z hz => by have := sTNodeS_mem hz; exact ⟨(by omega), (by omega)⟩), (by omega), (fun z hz => by have := sTNodeS_mem hz; exact ⟨(by omega), (by omega)⟩)⟩
def mDeclS : List tDecl -> Int -> List tDecl
 | [], _ => []
 | y :: r, k => (mText k, k + 1) :: mDeclS r (k + 1 + 1)
def cDeclS : List tDecl -> Nat
 | [] => 0
 | y :: r => (2) + cDeclS r
theorem Z30_lp : ∀ (ys l : List tDecl) (k x : Int), l.drop x.toNat = ys -> 0 <= x -> l.length <= 1099511627776 -> 0 < k -> k + (cDeclS ys : Int) <= 4611686018427387904 -> ∀ (Kx : Nat -> Int -> List tDecl -> Prop),
  (Ev (fun n => Z30.l2 n k x l (Kx n)) ↔ Ev (fun n => Kx n (k + (cDeclS ys : Int)) (l.take x.toNat ++ mDeclS ys k)))
 | [], l, k, x, h, h0, hl, hk, hb, Kx => by
  have := drop_nil h h0
  refine Ev.suc.trans ?_
  simp (disch := omega) only [Z30.l2, Z30.l2.b, if_neg, decide_eq_true_eq, Ev.s2 Kx]
  rw [List.take_of_length_le (by omega), mDeclS, List.append_nil]
  refine ev_arg2 ?_; simp [cDeclS]
 | y :: ys, l, k, x, h, h0, hl, hk, hb, Kx => by
  obtain ⟨e1, e2, e3⟩ := drop_cons h h0
  simp only [List.length_cons, cDeclS] at hb
  refine Ev.suc.trans ?_
  simp (disch := first | assumption | exact hy0.1 | exact hy0.2 | exact hy0.2.1 | exact hy0.2.2 | exact hy0.2.2.1 | exact hy0.2.2.2 | omega) only [Z30.l2, Z30.l2.b, if_pos, decide_eq_true_eq, Ev.s2 Kx, grd_dec2, wrap64, wrapU, rd_set, List.length_set, List.set_set, e2, markText_ev]
  rw [Z30_lp ys _ _ (x + 1) (drop_set e3 (by omega)) (by omega) (by simpa using hl) (by omega) (by omega), Ev.s2 Kx, take_set (by omega) (by omega), List.append_assoc, mDeclS]
  simp only [List.length_cons, cDeclS, List.singleton_append]
  exact ev_arg3 (by omega) (by congr 2 <;> first | rfl | omega | (congr 1; omega) | skip)
theorem Z30_ev {l : List tDecl} {k : Int} (hl : l.length <= 1099511627776) (hk : 0 < k) (hb : k + (cDeclS l : Int) <= 4611686018427387904) (R : Nat -> Int -> List tDecl -> Prop) :
  Ev (fun n => Z30.c n l k (R n)) ↔ Ev (fun n => R n (k + (cDeclS l : Int)) (mDeclS l k)) := by
 refine Ev.suc.trans ?_
 simp only [Z30.c, Z30.w]
 rw [Z30_lp l l k 0 rfl (by omega) hl hk hb, Ev.s2 R]
 rfl
theorem cDeclS_le : ∀ {l : List tDecl}, cDeclS l <= 8 * (l.length + sDeclS l)
 | [] => by simp [cDeclS]
 | y :: r => by
  have := cDeclS_le (l := r)
  simp only [cDeclS, sDeclS, List.length_cons]; omega
def mUint64S : List Int -> Int -> List Int
 | [], _ => []
 | y :: r, k => (k) :: mUint64S r (k + 1)
theorem Z36_lp : ∀ (ys l : List Int) (k x : Int), l.drop x.toNat = ys -> 0 <= x -> l.length <= 1099511627776 -> 0 < k -> k + (ys.length : Int) <= 4611686018427387904 -> ∀ (Kx : Nat -> Int -> List Int -> Prop),
  (Ev (fun n => Z36.l2 n k x l (Kx n)) ↔ Ev (fun n => Kx n (k + (ys.length : Int)) (l.take x.toNat ++ mUint64S ys k)))
 | [], l, k, x, h, h0, hl, hk, hb, Kx => by
  have := drop_nil h h0
  refine Ev.suc.trans ?_
  simp (disch := omega) only [Z36.l2, Z36.l2.b, if_neg, decide_eq_true_eq, Ev.s2 Kx]
  rw [List.take_of_length_le (by omega), mUint64S, List.append_nil]
  refine ev_arg2 ?_; simp
 | y :: ys, l, k, x, h, h0, hl, hk, hb, Kx => by
  obtain ⟨e1, e2, e3⟩ := drop_cons h h0
  simp only [List.length_cons] at hb
  refine Ev.suc.trans ?_
  simp (disch := first | assumption | exact hy0.1 | exact hy0.2 | exact hy0.2.1 | exact hy0.2.2 | exact hy0.2.2.1 | exact hy0.2.2.2 | omega) only [Z36.l2, Z36.l2.b, if_pos, decide_eq_true_eq, Ev.s2 Kx, grd_dec2, wrap64, wrapU, rd_set, List.length_set, List.set_set, e2]
  rw [Z36_lp ys _ _ (x + 1) (drop_set e3 (by omega)) (by omega) (by simpa using hl) (by omega) (by omega), Ev.s2 Kx, take_set (by omega) (by omega), List.append_assoc, mUint64S]
  simp only [List.length_cons, List.singleton_append]
  exact ev_arg3 (by omega) (by congr 2 <;> first | rfl | omega | (congr 1; omega) | skip)
theorem Z36_ev {l : List Int} {k : Int} (hl : l.length <= 1099511627776) (hk : 0 < k) (hb : k + (l.length : Int) <= 4611686018427387904) (R : Nat -> Int -> List Int -> Prop) :
  Ev (fun n => Z36.c n l k (R n)) ↔ Ev (fun n => R n (k + (l.length : Int)) (mUint64S l k)) := by
 refine Ev.suc.trans ?_
 simp only [Z36.c, Z36.w]
 rw [Z36_lp l l k 0 rfl (by omega) hl hk hb, Ev.s2 R]
 rfl
def mInt64S : List Int -> Int -> List Int
 | [], _ => []
 | y :: r, k => (k) :: mInt64S r (k + 1)
theorem Z31_lp : ∀ (ys l : List Int) (k x : Int), l.drop x.toNat = ys -> 0 <= x -> l.length <= 1099511627776 -> 0 < k -> k + (ys.length : Int) <= 4611686018427387904 -> ∀ (Kx : Nat -> Int -> List Int -> Prop),
  (Ev (fun n => Z31.l2 n k x l (Kx n)) ↔ Ev (fun n => Kx n (k + (ys.length : Int)) (l.take x.toNat ++ mInt64S ys k)))
 | [], l, k, x, h, h0, hl, hk, hb, Kx => by
  have := drop_nil h h0
  refine Ev.suc.trans ?_
  simp (disch := omega) only [Z31.l2, Z31.l2.b, if_neg, decide_eq_true_eq, Ev.s2 Kx]
  rw [List.take_of_length_le (by omega), mInt64S, List.append_nil]
  refine ev_arg2 ?_; simp
 | y :: ys, l, k, x, h, h0, hl, hk, hb, Kx => by
  obtain ⟨e1, e2, e3⟩ := drop_cons h h0
  simp only [List.length_cons] at hb
  refine Ev.suc.trans ?_
  simp (disch := first | assumption | exact hy0.1 | exact hy0.2 | exact hy0.2.1 | exact hy0.2.2 | exact hy0.2.2.1 | exact hy0.2.2.2 | omega) only [Z31.l2, Z31.l2.b, if_pos, decide_eq_true_eq, Ev.s2 Kx, grd_dec2, wrap64, wrapU, rd_set, List.length_set, List.set_set, e2]
  rw [Z31_lp ys _ _ (x + 1) (drop_set e3 (by omega)) (by omega) (by simpa using hl) (by omega) (by omega), Ev.s2 Kx, take_set (by omega) (by omega), List.append_assoc, mInt64S]
  simp only [List.length_cons, List.singleton_append]
  exact ev_arg3 (by omega) (by congr 2 <;> first | rfl | omega | (congr 1; omega) | skip)
theorem Z31_ev {l : List Int} {k : Int} (hl : l.length <= 1099511627776) (hk : 0 < k) (hb : k + (l.length : Int) <= 4611686018427387904) (R : Nat -> Int -> List Int -> Prop) :
  Ev (fun n => Z31.c n l k (R n)) ↔ Ev (fun n => R n (k + (l.length : Int)) (mInt64S l k)) := by
 refine Ev.suc.trans ?_
 simp only [Z31.c, Z31.w]
 rw [Z31_lp l l k 0 rfl (by omega) hl hk hb, Ev.s2 R]
 rfl
theorem mInt64S_len : ∀ {l : List Int} {k : Int}, (mInt64S l k).length = l.length
 | [], _ => rfl
 | y :: l, k => by simp [mInt64S, mInt64S_len]
def mTNodeS : List tTNode -> Int -> List tTNode
 | [], _ => []
 | y :: r, k => (k, k + 1, k + 1 + 1, k + 1 + 1 + 1, k + 1 + 1 + 1 + 1, mUint64S y.2.2.2.2.2.1 (k + 1 + 1 + 1 + 1 + 1), mInt64S y.2.2.2.2.2.2 (k + 1 + 1 + 1 + 1 + 1 + ((y.2.2.2.2.2.1.length : Nat) : Int))) :: mTNodeS r (k + 1 + 1 + 1 + 1 + 1 + ((y.2.2.2.2.2.1.length : Nat) : Int) + ((y.2.2.2.2.2.2.length : Nat) : Int))
def cTNodeS : List tTNode -> Nat
 | [] => 0
 | y :: r => (5 + y.2.2.2.2.2.1.length + y.2.2.2.2.2.2.length) + cTNodeS r
theorem Z34_lp : ∀ (ys l : List tTNode) (k x : Int), l.drop x.toNat = ys -> 0 <= x -> l.length <= 1099511627776 -> 0 < k -> k + (cTNodeS ys : Int) <= 4611686018427387904 -> (∀ y ∈ ys, y.2.2.2.2.2.1.length <= 1099511627776 /\ y.2.2.2.2.2.2.length <= 1099511627776) -> ∀ (Kx : Nat -> Int -> List tTNode -> Prop),
  (Ev (fun n => Z34.l2 n k x l (Kx n)) ↔ Ev (fun n => Kx n (k + (cTNodeS ys : Int)) (l.take x.toNat ++ mTNodeS ys k)))
 | [], l, k, x, h, h0, hl, hk, hb, hy, Kx => by
  have := drop_nil h h0
  refine Ev.suc.trans ?_
  simp (disch := omega) only [Z34.l2, Z34.l2.b, if_neg, decide_eq_true_eq, Ev.s2 Kx]
  rw [List.take_of_length_le (by omega), mTNodeS, List.append_nil]
  refine ev_arg2 ?_; simp [cTNodeS]
 | y :: ys, l, k, x, h, h0, hl, hk, hb, hy, Kx => by
  obtain ⟨e1, e2, e3⟩ := drop_cons h h0
  have hy0 := hy y List.mem_cons_self
  simp only [List.length_cons, cTNodeS] at hb
  refine Ev.suc.trans ?_
  simp (disch := first | assumption | exact hy0.1 | exact hy0.2 | exact hy0.2.1 | exact hy0.2.2 | exact hy0.2.2.1 | exact hy0.2.2.2 | omega) only [Z34.l2, Z34.l2.b, if_pos, decide_eq_true_eq, Ev.s2 Kx, grd_dec2, wrap64, wrapU, rd_set, List.length_set, List.set_set, e2, Z31_ev, Z36_ev]
  rw [Z34_lp ys _ _ (x + 1) (drop_set e3 (by omega)) (by omega) (by simpa using hl) (by omega) (by omega) (fun y hy' => hy y (List.mem_cons_of_mem _ hy')), Ev.s2 Kx, take_set (by omega) (by omega), List.append_assoc, mTNodeS]
  simp only [List.length_cons, cTNodeS, List.singleton_append]
  exact ev_arg3 (by omega) (by congr 2 <;> first | rfl | omega | (congr 1; omega) | skip)
theorem Z34_ev {l : List tTNode} {k : Int} (hl : l.length <= 1099511627776) (hk : 0 < k) (hb : k + (cTNodeS l : Int) <= 4611686018427387904) (hy : ∀ y ∈ l, y.2.2.2.2.2.1.length <= 1099511627776 /\ y.2.2.2.2.2.2.length <= 1099511627776) (R : Nat -> Int -> List tTNode -> Prop) :
  Ev (fun n => Z34.c n l k (R n)) ↔ Ev (fun n => R n (k + (cTNodeS l : Int)) (mTNodeS l k)) := by
 refine Ev.suc.trans ?_
 simp only [Z34.c, Z34.w]
 rw [Z34_lp l l k 0 rfl (by omega) hl hk hb hy, Ev.s2 R]
 rfl
theorem cTNodeS_le : ∀ {l : List tTNode}, cTNodeS l <= 8 * (l.length + sTNodeS l)
 | [] => by simp [cTNodeS]
 | y :: r => by
  have := cTNodeS_le (l := r)
  simp only [cTNodeS, sTNodeS, List.length_cons]; omega
def mLiteralS : List tLiteral -> Int -> List tLiteral
 | [], _ => []
 | y :: r, k => (k, decide (Int.tmod (k + 1) 3 = 0), mTNodeS y.2.2.1 (k + 1 + 1), mTNodeS y.2.2.2 (k + 1 + 1 + ((cTNodeS y.2.2.1 : Nat) : Int))) :: mLiteralS r (k + 1 + 1 + ((cTNodeS y.2.2.1 : Nat) : Int) + ((cTNodeS y.2.2.2 : Nat) : Int))
def cLiteralS : List tLiteral -> Nat
 | [] => 0
 | y :: r => (2 + (cTNodeS y.2.2.1) + (cTNodeS y.2.2.2)) + cLiteralS r
theorem Z33_lp : ∀ (ys l : List tLiteral) (k x : Int), l.drop x.toNat = ys -> 0 <= x -> l.length <= 1099511627776 -> 0 < k -> k + (cLiteralS ys : Int) <= 4611686018427387904 -> (∀ y ∈ ys, y.2.2.1.length <= 1099511627776 /\ (∀ z : tTNode, z ∈ y.2.2.1 -> z.2.2.2.2.2.1.length <= 1099511627776 /\ z.2.2.2.2.2.2.length <= 1099511627776) /\ y.2.2.2.length <= 1099511627776 /\ (∀ z : tTNode, z ∈ y.2.2.2 -> z.2.2.2.2.2.1.length <= 1099511627776 /\ z.2.2.2.2.2.2.length <= 1099511627776)) -> ∀ (Kx : Nat -> Int -> List tLiteral -> Prop),
  (Ev (fun n => Z33.l2 n k x l (Kx n)) ↔ Ev (fun n => Kx n (k + (cLiteralS ys : Int)) (l.take x.toNat ++ mLiteralS ys k)))
 | [], l, k, x, h, h0, hl, hk, hb, hy, Kx => by
  have := drop_nil h h0
  refine Ev.suc.trans ?_
  simp (disch := omega) only [Z33.l2, Z33.l2.b, if_neg, decide_eq_true_eq, Ev.s2 Kx]
  rw [List.take_of_length_le (by omega), mLiteralS, List.append_nil]
  refine ev_arg2 ?_; simp [cLiteralS]
 | y :: ys, l, k, x, h, h0, hl, hk, hb, hy, Kx => by
  obtain ⟨e1, e2, e3⟩ := drop_cons h h0
  have hy0 := hy y List.mem_cons_self
  simp only [List.length_cons, cLiteralS] at hb
  refine Ev.suc.trans ?_
  simp (disch := first | assumption | exact hy0.1 | exact hy0.2 | exact hy0.2.1 | exact hy0.2.2 | exact hy0.2.2.1 | exact hy0.2.2.2 | omega) only [Z33.l2, Z33.l2.b, if_pos, decide_eq_true_eq, Ev.s2 Kx, grd_dec2, wrap64, wrapU, rd_set, List.length_set, List.set_set, e2, Z34_ev]
  rw [Z33_lp ys _ _ (x + 1) (drop_set e3 (by omega)) (by omega) (by simpa using hl) (by omega) (by omega) (fun y hy' => hy y (List.mem_cons_of_mem _ hy')), Ev.s2 Kx, take_set (by omega) (by omega), List.append_assoc, mLiteralS]
  simp only [List.length_cons, cLiteralS, List.singleton_append]
  exact ev_arg3 (by omega) (by congr 2 <;> first | rfl | omega | (congr 1; omega) | skip)
theorem Z33_ev {l : List tLiteral} {k : Int} (hl : l.length <= 1099511627776) (hk : 0 < k) (hb : k + (cLiteralS l : Int) <= 4611686018427387904) (hy : ∀ y ∈ l, y.2.2.1.length <= 1099511627776 /\ (∀ z : tTNode, z ∈ y.2.2.1 -> z.2.2.2.2.2.1.length <= 1099511627776 /\ z.2.2.2.2.2.2.length <= 1099511627776) /\ y.2.2.2.length <= 1099511627776 /\ (∀ z : tTNode, z ∈ y.2.2.2 -> z.2.2.2.2.2.1.length <= 1099511627776 /\ z.2.2.2.2.2.2.length <= 1099511627776)) (R : Nat -> Int -> List tLiteral -> Prop) :
  Ev (fun n => Z33.c n l k (R n)) ↔ Ev (fun n => R n (k + (cLiteralS l : Int)) (mLiteralS l k)) := by
 refine Ev.suc.trans ?_
 simp only [Z33.c, Z33.w]
 rw [Z33_lp l l k 0 rfl (by omega) hl hk hb hy, Ev.s2 R]
 rfl
theorem markLiteralS_of {l : List tLiteral} (h : (l.length + sLiteralS l) <= 1099511627776) : ∀ y : tLiteral, y ∈ l -> y.2.2.1.length <= 1099511627776 /\ (∀ z : tTNode, z ∈ y.2.2.1 -> z.2.2.2.2.2.1.length <= 1099511627776 /\ z.2.2.2.2.2.2.length <= 1099511627776) /\ y.2.2.2.length <= 1099511627776 /\ (∀ z : tTNode, z ∈ y.2.2.2 -> z.2.2.2.2.2.1.length <= 1099511627776 /\ z.2.2.2.2.2.2.length <= 1099511627776) := by
 intro y hy
 have := sLiteralS_mem hy
 exact ⟨(by omega), (fun z hz => by have := sTNodeS_mem hz; exact ⟨(by omega), (by omega)⟩), (by omega), (fun z hz => by have := sTNodeS_mem hz; exact ⟨(by omega), (by omega)⟩)⟩
theorem cLiteralS_le : ∀ {l : List tLiteral}, cLiteralS l <= 8 * (l.length + sLiteralS l)
 | [] => by simp [cLiteralS]
 | y :: r => by
  have := cLiteralS_le (l := r)
  have := cTNodeS_le (l := y.2.2.1)
  have := cTNodeS_le (l := y.2.2.2)
  simp only [cLiteralS, sLiteralS, List.length_cons]; omega
theorem Z32_lp : ∀ (ys l : List Int) (k x : Int), l.drop x.toNat = ys -> 0 <= x -> l.length <= 1099511627776 -> 0 < k -> k + (ys.length : Int) <= 4611686018427387904 -> ∀ (Kx : Nat -> Int -> List Int -> Prop),
  (Ev (fun n => Z32.l2 n k x l (Kx n)) ↔ Ev (fun n => Kx n (k + (ys.length : Int)) (l.take x.toNat ++ mInt64S ys k)))
 | [], l, k, x, h, h0, hl, hk, hb, Kx => by
  have := drop_nil h h0
  refine Ev.suc.trans ?_
  simp (disch := omega) only [Z32.l2, Z32.l2.b, if_neg, decide_eq_true_eq, Ev.s2 Kx]
  rw [List.take_of_length_le (by omega), mInt64S, List.append_nil]
  refine ev_arg2 ?_; simp
 | y :: ys, l, k, x, h, h0, hl, hk, hb, Kx => by
  obtain ⟨e1, e2, e3⟩ := drop_cons h h0
  simp only [List.length_cons] at hb
  refine Ev.suc.trans ?_
  simp (disch := first | assumption | exact hy0.1 | exact hy0.2 | exact hy0.2.1 | exact hy0.2.2 | exact hy0.2.2.1 | exact hy0.2.2.2 | omega) only [Z32.l2, Z32.l2.b, if_pos, decide_eq_true_eq, Ev.s2 Kx, grd_dec2, wrap64, wrapU, rd_set, List.length_set, List.set_set, e2]
  rw [Z32_lp ys _ _ (x + 1) (drop_set e3 (by omega)) (by omega) (by simpa using hl) (by omega) (by omega), Ev.s2 Kx, take_set (by omega) (by omega), List.append_assoc, mInt64S]
  simp only [List.length_cons, List.singleton_append]
  exact ev_arg3 (by omega) (by congr 2 <;> first | rfl | omega | (congr 1; omega) | skip)
theorem Z32_ev {l : List Int} {k : Int} (hl : l.length <= 1099511627776) (hk : 0 < k) (hb : k + (l.length : Int) <= 4611686018427387904) (R : Nat -> Int -> List Int -> Prop) :
  Ev (fun n => Z32.c n l k (R n)) ↔ Ev (fun n => R n (k + (l.length : Int)) (mInt64S l k)) := by
 refine Ev.suc.trans ?_
 simp only [Z32.c, Z32.w]
 rw [Z32_lp l l k 0 rfl (by omega) hl hk hb, Ev.s2 R]
 rfl
theorem Z29_lp {l : List Int} (hl : l.length <= 1099511627776) : ∀ (ys : List Int) (k x : Int), l.drop x.toNat = mInt64S ys k -> 0 <= x -> 0 < k -> k + (ys.length : Int) <= 4611686018427387904 -> ∀ (Kx Kr : Nat -> Int -> Prop),
  (Ev (fun n => Z29.l2 n l k x (Kx n) (Kr n)) ↔ Ev (fun n => Kx n (k + (ys.length : Int))))
 | [], k, x, h, h0, hk, hb, Kx, Kr => by
  have := drop_nil h h0
  refine Ev.suc.trans ?_
  simp (disch := omega) only [Z29.l2, Z29.l2.b, if_neg, decide_eq_true_eq, Ev.s1 Kx]
  refine ev_arg ?_; simp
 | y :: ys, k, x, h, h0, hk, hb, Kx, Kr => by
  obtain ⟨e1, e2, e3⟩ := drop_cons h h0
  simp only [List.length_cons] at hb
  refine Ev.suc.trans ?_
  simp (disch := first | assumption | exact hy0.1 | exact hy0.2 | exact hy0.2.1 | exact hy0.2.2 | exact hy0.2.2.1 | exact hy0.2.2.2 | omega) only [Z29.l2, Z29.l2.b, if_pos, if_neg, decide_eq_true_eq, Bool.not_eq_true', decide_eq_false_iff_not, not_true, if_false, Ev.s1 Kx, grd_dec2, wrap64, wrapU, e2, beq_self_eq_true, Bool.true_eq_false, Bool.not_true, Bool.false_eq_true, decide_true, decide_not, Ev.iteI]
  rw [Z29_lp hl ys _ (x + 1) (by first | exact e3 | (rw [e3]; congr 1 <;> omega)) (by omega) (by omega) (by omega), Ev.s1 Kx]
  refine ev_arg ?_; simp only [List.length_cons]; try omega
theorem Z29_ev {l : List Int} {k : Int} (hl : l.length <= 1099511627776) (hk : 0 < k) (hb : k + (l.length : Int) <= 4611686018427387904) (R : Nat -> Int -> Prop) :
  Ev (fun n => Z29.c n (mInt64S l k) k (R n)) ↔ Ev (fun n => R n (k + (l.length : Int))) := by
 refine Ev.suc.trans ?_
 simp only [Z29.c, Z29.w]
 rw [Z29_lp (by rw [mInt64S_len]; exact hl) l k 0 rfl (by omega) hk hb, Ev.s1 R]
end Go.Vsi
end

section
set_option linter.unusedVariables false
set_option linter.unusedSimpArgs false
set_option synthInstance.maxSize 4096
namespace Go.Vsi
theorem wd_of {l : List Int} (h : Gd (.sl 0 (.int .u64)) l) : Wd l := fun x hx => ⟨(h.2 x hx).1, (h.2 x hx).2⟩
theorem term_wd {t : List tTNode} (h : Gd (.sl 0 yTNode) t) (hz : t.length + sTNodeS t <= 1099511627776) : ∀ x : tTNode, x ∈ t -> Wd x.2.2.2.2.2.1 /\ x.2.2.2.2.2.2.length <= 1099511627776 :=
 fun x hx => ⟨wd_of (h.2 x hx).2.2.2.2.2.1, by have := sTNodeS_mem hx; omega⟩
end Go.Vsi
end

section
set_option linter.unusedVariables false
set_option linter.unusedSimpArgs false
set_option synthInstance.maxSize 4096
namespace Go.Vsi
theorem litsG {l : List tLiteral} (h : Gd (.sl 0 yLiteral) l) (hz : l.length + sLiteralS l <= 1099511627776) : LitG l := fun y hy =>
 have := sLiteralS_mem hy
 ⟨term_wd (h.2 y hy).2.2.1 (by omega), term_wd (h.2 y hy).2.2.2 (by omega)⟩
theorem touchP_len {d : List tDecl} {l : List tLiteral} {ids : List Int} : (touchP d l ids).1.length <= 1000000 := by
 unfold touchP
 by_cases h : litsOk d l = true
 rotate_left
 ·rw [if_neg h]; simp
 rw [if_pos h]
 have ha := litsOk_all h
 cases e : chP l none ids [] with
 | none => simp
 | some o =>
  have ho := chP_le e
  have ht := touchGo_len (d := d) (o := o) (a := [])
  have hb : 2 * d.length * o.length <= 120 * 60 := Nat.mul_le_mul (by omega) (by omega)
  have hr := rising_le (touchGo d o [])
  rw [List.length_nil] at ht
  show (rising (touchGo d o [])).length <= 1000000
  omega
theorem touch_q28 {d : List tDecl} {l : List tLiteral} {ids a b : List Int} {c : Bool} {Kc0 : Nat -> Bool -> Prop} {Kc1 : Nat -> List tDecl -> List tLiteral -> List Int -> Bool -> List Int -> List Int -> Prop} (h : Ev (fun n => Kc1 n d l ids c a b)) :
  Ev (fun n => laws_FnExactTouching.q28 n d l ids c false a b (Kc0 n) (Kc1 n)) := by
 refine Ev.succ ?_
 simp only [laws_FnExactTouching.q28, laws_FnExactTouching.q28.b]
 exact Ev.neg (by decide) h.shift
theorem touching_law {d : List tDecl} {l : List tLiteral} {ids : List Int} (hd : Gd (.sl 0 yDecl) d) (hl : Gd (.sl 0 yLiteral) l) (hi : Gd (.sl 0 (.int .i64)) ids) (K : Bool -> Prop) :
  True /\ (K true -> Ev (fun n => laws_FnExactTouching.c n d l ids K)) := by
 refine ⟨trivial, fun hK => ?_⟩
 refine Ev.succ ?_
 simp only [laws_FnExactTouching.c, laws_FnExactTouching.w]
 refine Ev.ite (fun _ => Ev.const hK) fun hids => ?_
 have hids' : ids.length <= 1048576 := by simp at hids; omega
 rw [Z39_ev (by omega) (by omega) hd.1 (szDeclS_gd hd)]
 by_cases z1 : ((d.length + sDeclS d : Nat) : Int) <= 1048576
 rotate_left
 ·rw [szr_no z1]; exact Ev.pos (by simp) (Ev.const hK)
 rw [szr_ok z1]
 refine Ev.neg (by simp; omega) ?_
 rw [Z42_ev (by omega) (by omega) hl.1 (szLiteralS_gd hl)]
 by_cases z2 : ((l.length + sLiteralS l : Nat) : Int) <= 1048576 - ((d.length + sDeclS d : Nat) : Int)
 rotate_left
 ·rw [szr_no z2]; exact Ev.pos (by simp) (Ev.const hK)
 rw [szr_ok z2]
 refine Ev.neg (by simp; omega) ?_
 have t1 := fun R => Z49_ev (l := d) (by omega) R
 have t2 := fun R => Z52_ev (l := l) (by omega) R
 have t3 := fun R => Z50_ev (l := ids) (by omega) R
 have sS := fun R hR => touchingS_wp (d := d) (l := l) (ids := ids) (by omega) hids' (litsG hl (by omega)) R hR
 have sI := fun R hR => touchingI_wp (d := d) (l := l) (ids := ids) (by omega) (by omega) hids' R hR
 have hr := touchP_len (d := d) (l := l) (ids := ids)
 generalize touchP d l ids = r at sS sI hr
 have e0 := fun R => Z22_ev (l := r.1) (l' := r.1) (by omega) R
 have e1 := fun R => Z21_ev (l := d) (l' := d) (by omega) R
 have e2 := fun R => Z24_ev (l := l) (l' := l) (by omega) (eqLiteralS_of (by omega)) R
 have e3 := fun R => Z22_ev (l := ids) (l' := ids) (by omega) R
 have c1 := cDeclS_le (l := d)
 have c2 := cLiteralS_le (l := l)
 have m1 := fun R => Z30_ev (l := d) (k := 1) (by omega) (by omega) (by omega) R
 have m2 := fun R => Z33_ev (l := l) (k := 1 + (cDeclS d : Int)) (by omega) (by omega) (by omega) (markLiteralS_of (by omega)) R
 have m3 := fun R => Z32_ev (l := ids) (k := 1 + (cDeclS d : Int) + (cLiteralS l : Int)) (by omega) (by omega) (by omega) R
 have m0 := fun R => Z32_ev (l := r.1) (k := 1) (by omega) (by omega) (by omega) R
 have k0 := fun R => Z29_ev (l := r.1) (k := 1) (by omega) (by omega) (by omega) R
 simp only [beq_self_eq_true, decide_true, and_self] at e0 e1 e2 e3
 rw [t1, t2, t3]
 refine sS _ ?_
 rw [t1, t2, t3]
 refine sI _ ?_
 rw [e0]
 refine Ev.pos (by simp) (Ev.neg (by simp) ?_)
 refine Ev.succ ?_
 simp only [laws_FnExactTouching.q17, laws_FnExactTouching.q17.b]
 rw [t1, e1]
 refine Ev.neg (by simp) ?_
 rw [t2, e2]
 refine Ev.neg (by simp) ?_
 rw [t3, e3]
 refine Ev.neg (by simp) ?_
 rw [m1, m2, m3]
 refine Ev.pos (by simp; omega) ?_
 rw [e0]
 refine Ev.pos (by simp) ?_
 simp only [beq_self_eq_true, Bool.not_true]
 refine touch_q28 (Kc0 := fun n y => K y) (Kc1 := fun n a b c e f g => laws_FnExactTouching.j1 (fun y => K y) n a b c e f g) ?_
 simp only [laws_FnExactTouching.j1, laws_FnExactTouching.j0]
 rw [m0, k0]
 refine Ev.neg (by simp; omega) (Ev.neg (by simp) ?_)
 rw [t1, t2, t3]
 refine sI _ ?_
 rw [e0]
 refine Ev.pos (by simp) (Ev.neg (by simp) ?_)
 rw [k0]
 exact Ev.neg (by simp; omega) (Ev.neg (by simp) (Ev.const hK))
end Go.Vsi
end
