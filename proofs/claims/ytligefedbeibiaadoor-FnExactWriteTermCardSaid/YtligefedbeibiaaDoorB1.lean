/- What the told functions answer. No statement is proved here. -/
import Derived.Test.YtligefedbeibiaaDoorA1

section
set_option linter.unusedVariables false
namespace Go.Vsi
def Ev (P : Nat -> Prop) : Prop := ∃ N, ∀ n, N <= n -> P n
theorem Ev.succ {P : Nat -> Prop} : Ev (fun n => P (n + 1)) -> Ev P
 | ⟨N, h⟩ => ⟨N + 1, fun n hn => by obtain ⟨m, rfl⟩ : ∃ m, n = m + 1 := ⟨n - 1, by omega⟩; exact h m (by omega)⟩
theorem Ev.shift {P : Nat -> Prop} : Ev P -> Ev (fun n => P (n + 1))
 | ⟨N, h⟩ => ⟨N, fun n hn => h (n + 1) (by omega)⟩
theorem Ev.and {P Q : Nat -> Prop} : Ev P -> Ev Q -> Ev (fun n => P n /\ Q n)
 | ⟨N, h⟩, ⟨M, g⟩ => ⟨max N M, fun n hn => ⟨h n (by omega), g n (by omega)⟩⟩
theorem Ev.const {p : Prop} (h : p) : Ev (fun _ => p) := ⟨0, fun _ _ => h⟩
theorem Ev.some {P : Nat -> Prop} : Ev P -> ∃ n, P n
 | ⟨N, h⟩ => ⟨N, h N (Nat.le_refl _)⟩
theorem wrap64 {x : Int} (h1 : -9223372036854775808 <= x) (h2 : x < 9223372036854775808) : IntKind.wrap .i64 x = x := by
 simp only [IntKind.wrap, IntKind.bits, IntKind.signed, Bool.true_and]
 split <;> simp_all <;> omega
theorem wrapU {x : Int} (h1 : 0 <= x) (h2 : x < 18446744073709551616) : IntKind.wrap .u64 x = x := by
 simp only [IntKind.wrap, IntKind.bits, IntKind.signed, Bool.false_and]
 simp; omega
theorem wrap8 {x : Int} (h1 : 0 <= x) (h2 : x < 256) : IntKind.wrap .u8 x = x := by
 simp only [IntKind.wrap, IntKind.bits, IntKind.signed, Bool.false_and]
 simp; omega
theorem tdivP {x m : Int} (h : 0 <= x) : Int.tdiv x m = x / m := Int.tdiv_eq_ediv_of_nonneg h
theorem tmodP {x m : Int} (h : 0 <= x) : Int.tmod x m = x % m := Int.tmod_eq_emod_of_nonneg h
theorem fdivP {x m : Int} (h : 0 <= m) : Int.fdiv x m = x / m := Int.fdiv_eq_ediv_of_nonneg x h
def W (ws : List Nat) : List Int := ws.map Int.ofNat
theorem W_len (ws : List Nat) : (W ws).length = ws.length := by simp [W]
theorem W_rd (ws : List Nat) (i : Nat) : rd (W ws) i = ((ws.getD i 0 : Nat) : Int) := by
 simp only [rd, W, List.getD_eq_getElem?_getD, List.getElem?_map]
 cases ws[i]? <;> rfl
def Below (m : Nat) (ws : List Nat) : Prop := ∀ x ∈ ws, x < m
theorem W_of {m : Nat} : ∀ {l : List Int}, (∀ x ∈ l, 0 <= x /\ x < (m : Int)) -> ∃ ws, l = W ws /\ Below m ws
 | [], _ => ⟨[], rfl, by simp [Below]⟩
 | x :: l, h => by
  obtain ⟨ws, rfl, hb⟩ := W_of (l := l) fun y hy => h y (by simp [hy])
  have hx := h x (by simp)
  refine ⟨x.toNat :: ws, ?_, ?_⟩
  ·simp only [W, List.map_cons, List.cons.injEq, and_true]
   show x = (x.toNat : Int); omega
  ·intro y hy
   simp only [List.mem_cons] at hy
   rcases hy with rfl | hy
   ·omega
   ·exact hb y hy
theorem Below.getD {m : Nat} {ws : List Nat} (h : Below m ws) (hm : 0 < m) (i : Nat) : ws.getD i 0 < m := by
 rw [List.getD_eq_getElem?_getD]
 cases hw : ws[i]? with
 | none => exact hm
 | some y => exact h y (List.mem_of_getElem? hw)
theorem Below.set {m : Nat} {ws : List Nat} (h : Below m ws) {i x : Nat} (hx : x < m) : Below m (ws.set i x) := by
 intro y hy
 rcases List.mem_or_eq_of_mem_set hy with h' | rfl
 ·exact h y h'
 ·exact hx
theorem Below.app {m : Nat} {a b : List Nat} (ha : Below m a) (hb : Below m b) : Below m (a ++ b) := by
 intro y hy
 rcases List.mem_append.mp hy with h | h
 ·exact ha y h
 ·exact hb y h
theorem and_W {a b : Nat} (ha : a < 18446744073709551616) (hb : b < 18446744073709551616) : ibits .and .u64 (a : Int) (b : Int) = ((a &&& b : Nat) : Int) := by
 have hab : a &&& b < 2 ^ 64 := Nat.and_lt_two_pow a hb
 show IntKind.wrap .u64 (((BitVec.ofInt 64 (a : Int) &&& BitVec.ofInt 64 (b : Int) : BitVec 64).toNat : Nat) : Int) = _
 rw [BitVec.toNat_and, BitVec.ofInt_natCast, BitVec.ofInt_natCast, BitVec.toNat_ofNat, BitVec.toNat_ofNat]
 rw [Nat.mod_eq_of_lt ha, Nat.mod_eq_of_lt hb]
 exact wrapU (by omega) (by omega)
theorem shr_W (a k : Nat) (hk : k <= 64) : Int.fdiv (a : Int) (2 ^ (Nat.min k 64)) = ((a >>> k : Nat) : Int) := by
 rw [fdivP (Int.le_of_lt (Int.pow_pos (by decide))), show Nat.min k 64 = k from Nat.min_eq_left hk, Nat.shiftRight_eq_div_pow]
 simp
def bit (ws : List Nat) (i : Nat) : Bool := (ws.getD (i / 64) 0).testBit (i % 64)
theorem bit_out {ws : List Nat} {i : Nat} (h : 64 * ws.length <= i) : bit ws i = false := by
 have : ws.length <= i / 64 := by omega
 simp [bit, List.getD_eq_getElem?_getD, List.getElem?_eq_none this]
end Go.Vsi
end

section
set_option linter.unusedVariables false
namespace Go.Vsi
theorem Ev.suc {P : Nat -> Prop} : Ev P ↔ Ev (fun n => P (n + 1)) := ⟨Ev.shift, Ev.succ⟩
theorem Ev.s0 (R : Nat -> Prop) : Ev (fun n => R (n + 1)) ↔ Ev (fun n => R n) := ⟨Ev.succ, Ev.shift⟩
theorem Ev.s1 {α : Type} (R : Nat -> α -> Prop) (a : α) : Ev (fun n => R (n + 1) a) ↔ Ev (fun n => R n a) := Ev.s0 (fun n => R n a)
theorem Ev.s2 {α β : Type} (R : Nat -> α -> β -> Prop) (a : α) (b : β) : Ev (fun n => R (n + 1) a b) ↔ Ev (fun n => R n a b) := Ev.s0 (fun n => R n a b)
theorem Ev.s3 {α β γ : Type} (R : Nat -> α -> β -> γ -> Prop) (a : α) (b : β) (c : γ) : Ev (fun n => R (n + 1) a b c) ↔ Ev (fun n => R n a b c) := Ev.s0 (fun n => R n a b c)
theorem Ev.s6 {α β γ δ ε ζ : Type} (R : Nat -> α -> β -> γ -> δ -> ε -> ζ -> Prop) (a : α) (b : β) (c : γ) (d : δ) (e : ε) (f : ζ) : Ev (fun n => R (n + 1) a b c d e f) ↔ Ev (fun n => R n a b c d e f) := Ev.s0 (fun n => R n a b c d e f)
theorem Ev.s7 {α β γ δ ε ζ η : Type} (R : Nat -> α -> β -> γ -> δ -> ε -> ζ -> η -> Prop) (a : α) (b : β) (c : γ) (d : δ) (e : ε) (f : ζ) (g : η) : Ev (fun n => R (n + 1) a b c d e f g) ↔ Ev (fun n => R n a b c d e f g) := Ev.s0 (fun n => R n a b c d e f g)
theorem Ev.s8 {α β γ δ ε ζ η θ : Type} (R : Nat -> α -> β -> γ -> δ -> ε -> ζ -> η -> θ -> Prop) (a : α) (b : β) (c : γ) (d : δ) (e : ε) (f : ζ) (g : η) (h : θ) : Ev (fun n => R (n + 1) a b c d e f g h) ↔ Ev (fun n => R n a b c d e f g h) := Ev.s0 (fun n => R n a b c d e f g h)
theorem Ev.s9 {α β γ δ ε ζ η θ ι : Type} (R : Nat -> α -> β -> γ -> δ -> ε -> ζ -> η -> θ -> ι -> Prop) (a : α) (b : β) (c : γ) (d : δ) (e : ε) (f : ζ) (g : η) (h : θ) (i : ι) : Ev (fun n => R (n + 1) a b c d e f g h i) ↔ Ev (fun n => R n a b c d e f g h i) := Ev.s0 (fun n => R n a b c d e f g h i)
theorem Ev.s10 {α β γ δ ε ζ η θ ι κ : Type} (R : Nat -> α -> β -> γ -> δ -> ε -> ζ -> η -> θ -> ι -> κ -> Prop) (a : α) (b : β) (c : γ) (d : δ) (e : ε) (f : ζ) (g : η) (h : θ) (i : ι) (j : κ) : Ev (fun n => R (n + 1) a b c d e f g h i j) ↔ Ev (fun n => R n a b c d e f g h i j) := Ev.s0 (fun n => R n a b c d e f g h i j)
@[simp] theorem Ev.k {p : Prop} : Ev (fun _ => p) ↔ p := ⟨fun ⟨_, h⟩ => h _ (Nat.le_refl _), Ev.const⟩
@[simp] theorem Ev.iteI {c : Prop} [Decidable c] {P Q : Nat -> Prop} : Ev (fun n => if c then P n else Q n) ↔ if c then Ev P else Ev Q := by
 by_cases h : c <;> simp only [h, if_true, if_false]
@[simp] theorem Ev.andI {P Q : Nat -> Prop} : Ev (fun n => P n /\ Q n) ↔ Ev P /\ Ev Q :=
 ⟨fun ⟨N, h⟩ => ⟨⟨N, fun n hn => (h n hn).1⟩, ⟨N, fun n hn => (h n hn).2⟩⟩, fun h => Ev.and h.1 h.2⟩
theorem grd_dec {p : Prop} [Decidable p] {P : Prop} (h : p) : grd (decide p) P ↔ P := by rw [decide_eq_true h]; exact Iff.rfl
theorem grd_dec2 {p q : Prop} [Decidable p] [Decidable q] {P : Prop} (h : p /\ q) : grd (decide p && decide q) P ↔ P := by rw [decide_eq_true h.1, decide_eq_true h.2]; exact Iff.rfl
theorem grd_dec3 {p q r : Prop} [Decidable p] [Decidable q] [Decidable r] {P : Prop} (h : p /\ q /\ r) : grd (decide p && decide q && decide r) P ↔ P := by rw [decide_eq_true h.1, decide_eq_true h.2.1, decide_eq_true h.2.2]; exact Iff.rfl
@[simp] theorem grd_true {P : Prop} : grd true P ↔ P := Iff.rfl
theorem drop_nil {α : Type} {l : List α} {x : Int} (h : l.drop x.toNat = []) (h0 : 0 <= x) : (l.length : Int) <= x := by
 have := List.drop_eq_nil_iff.1 h; omega
theorem drop_cons {α : Type} [Inhabited α] {l ys : List α} {x : Int} {y : α} (h : l.drop x.toNat = y :: ys) (h0 : 0 <= x) :
  x < (l.length : Int) /\ rd l x.toNat = y /\ l.drop (x + 1).toNat = ys := by
 have hl : x.toNat < l.length := by
  rcases Nat.lt_or_ge x.toNat l.length with h' | h'
  ·exact h'
  ·rw [List.drop_eq_nil_of_le h'] at h; cases h
 refine ⟨by omega, ?_, ?_⟩
 ·have := List.getElem?_drop (xs := l) (i := x.toNat) (j := 0)
  rw [h] at this
  simp only [List.getElem?_cons_zero, Nat.add_zero] at this
  simp [rd, List.getD_eq_getElem?_getD, <- this]
 ·rw [show (x + 1).toNat = x.toNat + 1 from by omega, <- List.drop_drop, h]; rfl
theorem take_set {α : Type} {l : List α} {x : Int} {v : α} (h0 : 0 <= x) (hx : x < (l.length : Int)) : (l.set x.toNat v).take (x + 1).toNat = l.take x.toNat ++ [v] := by
 have e : (x + 1).toNat = x.toNat + 1 := by omega
 have hl : x.toNat < l.length := by omega
 rw [e, List.take_succ_eq_append_getElem (by simpa using hl), List.take_set_of_le (by omega)]
 simp
theorem rd_set {α : Type} [Inhabited α] {l : List α} {i : Nat} {v : α} (h : i < l.length) : rd (l.set i v) i = v := by
 simp [rd, List.getD_eq_getElem?_getD, h]
theorem ev_arg {α : Type} {R : Nat -> α -> Prop} {a b : α} (h : a = b) : Ev (fun n => R n a) ↔ Ev (fun n => R n b) := by rw [h]
theorem ev_bool {R : Nat -> Bool -> Prop} {b : Bool} : (if b = true then Ev (fun n => R n true) else Ev (fun n => R n false)) ↔ Ev (fun n => R n b) := by cases b <;> simp
def Gd : (t : Ty) -> t.T -> Prop
 | .int k, n => k.min <= n /\ n <= k.max
 | .str, s => s.length <= 9223372036854775807
 | .sl _ t, l => l.length <= 9223372036854775807 /\ ∀ y, y ∈ l -> Gd t y
 | .prod a b, p => Gd a p.1 /\ Gd b p.2
 | .bool, _ => True
 | .unit, _ => True
 | .ptr _ _, _ => True
def firstIx {α : Type} (p : α -> Bool) : List α -> Int -> Int
 | [], _ => -1
 | y :: r, x => if p y = true then x else firstIx p r (x + 1)
theorem firstIx_neg {α : Type} {p : α -> Bool} : ∀ {l : List α} {x : Int}, 0 <= x -> firstIx p l x < 0 -> firstIx p l x = -1
 | [], x, _, _ => rfl
 | y :: l, x, h0, h => by
  rw [firstIx] at h ⊢
  split
  ·rename_i hp; rw [if_pos hp] at h; omega
  ·rename_i hp; rw [if_neg hp] at h; exact firstIx_neg (by omega) h
theorem firstIx_any {α : Type} {p : α -> Bool} : ∀ {l : List α} {x : Int}, 0 <= x -> decide (firstIx p l x >= 0) = l.any p
 | [], x, _ => by simp [firstIx]
 | y :: l, x, h0 => by
  rw [firstIx, List.any_cons]
  by_cases hp : p y = true
  ·simp [hp, h0]
  ·rw [if_neg hp, firstIx_any (by omega)]
   simp only [Bool.not_eq_true] at hp
   simp [hp]
def szr (left : Int) (z : Nat) : Int := if left < z then -1 else left - z
theorem szr_neg {left : Int} {z : Nat} : szr left z < 0 ↔ left < z := by unfold szr; split <;> omega
theorem szr_ok {left : Int} {z : Nat} (h : (z : Int) <= left) : szr left z = left - z := by unfold szr; rw [if_neg (by omega)]
theorem szr_no {left : Int} {z : Nat} (h : ¬ (z : Int) <= left) : szr left z = -1 := by unfold szr; rw [if_pos (by omega)]
theorem szr_two {left : Int} {y z : Nat} (h : 0 <= left) (hy : ¬ szr left y < 0) : szr (szr left y) z = szr left (y + z) := by
 rw [szr_neg] at hy
 unfold szr; split <;> split <;> split <;> omega
theorem szr_back {left : Int} {y z : Nat} (h : szr left y < 0) : szr left (y + z) = -1 := by
 rw [szr_neg] at h; unfold szr; split <;> omega
theorem szr_m1 {left : Int} {z : Nat} (h : -1 <= left) : -1 <= szr left z := by unfold szr; split <;> omega
theorem szr_le' {left b : Int} {z : Nat} (h : -1 <= left) (h' : left <= b) : szr left z <= b := by unfold szr; split <;> omega
end Go.Vsi
end

section
set_option linter.unusedVariables false
set_option linter.unusedSimpArgs false
namespace Go.Vsi
structure Ok (w : Int) (ws : List Nat) : Prop where
 lo : 1 <= w
 hi : w <= 4096
 len : (ws.length : Int) = (w + 63) / 64
 words : Below 18446744073709551616 ws
 top : ∀ i : Nat, w <= i -> bit ws i = false
def bl (w : Nat) (f : Nat -> Bool) : List Int := (List.range w).map fun i => ((f i).toNat : Int)
theorem bl_len (w : Nat) (f : Nat -> Bool) : (bl w f).length = w := by simp [bl]
theorem bl_rd {w : Nat} {f : Nat -> Bool} {i : Nat} (h : i < w) : rd (bl w f) i = ((f i).toNat : Int) := by
 rw [rd, List.getD_eq_getElem?_getD, bl, List.getElem?_map, List.getElem?_range h]; rfl
theorem bl_ext {w : Nat} {f g : Nat -> Bool} (h : ∀ i, i < w -> f i = g i) : bl w f = bl w g := by
 rw [bl, bl]; refine List.map_congr_left fun i hi => ?_
 rw [h i (List.mem_range.1 hi)]
theorem bl_of {l : List Int} {w : Nat} {f : Nat -> Bool} (hl : l.length = w) (h : ∀ i, i < w -> rd l i = ((f i).toNat : Int)) : l = bl w f := by
 apply List.ext_getElem (by rw [hl, bl_len])
 intro i h1 h2
 have a := h i (by omega)
 have b := bl_rd (f := f) (show i < w by omega)
 rw [rd, List.getD_eq_getElem?_getD, List.getElem?_eq_getElem h1] at a
 rw [rd, List.getD_eq_getElem?_getD, List.getElem?_eq_getElem h2] at b
 simp only [Option.getD_some] at a b
 rw [a, b]
theorem bl_app (u v : Nat) (f g : Nat -> Bool) : bl u f ++ bl v g = bl (u + v) (fun i => if i < u then f i else g (i - u)) := by
 refine bl_of (by simp [bl_len]) fun i hi => ?_
 rw [rd, List.getD_eq_getElem?_getD]
 by_cases h : i < u
 ·rw [List.getElem?_append_left (by rw [bl_len]; exact h), <- List.getD_eq_getElem?_getD]
  simp only [h, if_true]; exact bl_rd h
 ·rw [List.getElem?_append_right (by rw [bl_len]; omega), bl_len, <- List.getD_eq_getElem?_getD]
  simp only [h, if_false]; exact bl_rd (by omega)
theorem bl_one (b : Bool) : [((b.toNat : Nat) : Int)] = bl 1 (fun _ => b) := rfl
theorem bl_zero (f : Nat -> Bool) : bl 0 f = [] := rfl
end Go.Vsi
end

section
set_option linter.unusedVariables false
set_option linter.unusedSimpArgs false
set_option synthInstance.maxSize 4096
namespace Go.Vsi
end Go.Vsi
end

section
set_option linter.unusedVariables false
set_option linter.unusedSimpArgs false
set_option synthInstance.maxSize 4096
namespace Go.Vsi
def Wd (l : List Int) : Prop := ∀ x ∈ l, 0 <= x /\ x <= 18446744073709551615
def bitsOk (w : Int) (l : List Int) : Bool := decide (1 <= w /\ w <= 4096 /\ (l.length : Int) = (w + 63) / 64 /\ (w % 64 = 0 \/ rd l (l.length - 1) / 2 ^ (w % 64).toNat = 0))
theorem bit_div {x j : Nat} : x / 2 ^ j % 2 = (x.testBit j).toNat := by
 rw [Nat.testBit, Nat.shiftRight_eq_div_pow, Nat.one_and_eq_mod_two]
 rcases Nat.mod_two_eq_zero_or_one (x / 2 ^ j) with h | h <;> simp [h]
theorem l1In_ev {a b c : Int} (R : Nat -> Bool -> Prop) : Ev (fun n => Z52.c n a b c (R n)) ↔ Ev (fun n => R n (decide (b <= a /\ a <= c))) := by
 refine Ev.suc.trans ?_
 simp only [Z52.c, Z52.w, Ev.iteI, decide_eq_true_eq, Ev.s1 R, ge_iff_le]
 split
 ·refine ev_arg ?_; rw [decide_eq_decide]; omega
 ·refine ev_arg ?_; symm; rw [decide_eq_false_iff_not]; omega
theorem inside_ev {a b c : Int} (R : Nat -> Bool -> Prop) : Ev (fun n => Z10.c n a b c (R n)) ↔ Ev (fun n => R n (decide (b <= a /\ a <= c))) := by
 refine Ev.suc.trans ?_
 simp only [Z10.c, Z10.w, Ev.iteI, decide_eq_true_eq, Ev.s1 R, ge_iff_le]
 split
 ·refine ev_arg ?_; rw [decide_eq_decide]; omega
 ·refine ev_arg ?_; symm; rw [decide_eq_false_iff_not]; omega
theorem wordsFor_ev {a : Int} (h0 : 0 <= a) (h1 : a <= 1000000000) (R : Nat -> Int -> Prop) : Ev (fun n => Z16.c n a (R n)) ↔ Ev (fun n => R n ((a + 63) / 64)) := by
 refine Ev.suc.trans ?_
 simp (disch := omega) only [Z16.c, Z16.w, wrap64, tdivP, Ev.s1 R]
theorem l1Bit_ev {ws : List Nat} (hw : Below 18446744073709551616 ws) {k : Nat} (hk : k < 64 * ws.length) (hl : ws.length <= 4096) {w : Int} (R : Nat -> Int -> Prop) :
  Ev (fun n => Z49.c n w (W ws) k (R n)) ↔ Ev (fun n => R n ((bit ws k).toNat : Int)) := by
 refine Ev.suc.trans ?_
 have e : ibits .and .u64 ((ws.getD (k / 64) 0 >>> (k % 64) : Nat) : Int) 1 = (((bit ws k).toNat : Nat) : Int) := by
  have hx : ws.getD (k / 64) 0 >>> (k % 64) < 18446744073709551616 := by
   rw [Nat.shiftRight_eq_div_pow]; exact Nat.lt_of_le_of_lt (Nat.div_le_self _ _) (hw.getD (by decide) _)
  rw [show (1 : Int) = ((1 : Nat) : Int) from rfl, and_W hx (by decide), Nat.and_one_is_mod, Nat.shiftRight_eq_div_pow, bit_div]; rfl
 have e1 : Int.toNat ((k : Int) / 64) = k / 64 := by omega
 have e2 : Int.toNat ((k : Int) % 64) = k % 64 := by omega
 simp (disch := omega) only [Z49.c, Z49.w, W_len, tdivP, tmodP, wrap64, wrapU, grd_dec2, grd_dec, e1, e2, W_rd, shr_W, e]
 rw [wrap8 (by omega) (by cases bit ws k <;> simp), Ev.s1 R]
theorem specOk_lp {ws : List Nat} (hw : Below 18446744073709551616 ws) (hl : ws.length <= 4096) {w : Int} : ∀ (m k : Nat), k + m = 64 * ws.length -> ∃ b : Bool, (b = true ↔ ∀ i, k <= i -> bit ws i = false) /\
  ∀ (Kx : Nat -> Prop) (Kr : Nat -> Bool -> Prop), (Ev (fun n => Z44.l4 n w (W ws) k (Kx n) (Kr n)) ↔ if b = true then Ev Kx else Ev (fun n => Kr n false))
 | 0, k, h => by
  refine ⟨true, ⟨fun _ i hi => bit_out (by omega), fun _ => rfl⟩, fun Kx Kr => ?_⟩
  refine Ev.suc.trans ?_
  simp (disch := omega) only [Z44.l4, Z44.l4.b, W_len, wrap64, if_neg, decide_eq_true_eq, Ev.s0 Kx, if_true]
 | m + 1, k, h => by
  obtain ⟨b, hb, kk⟩ := specOk_lp hw hl (w := w) m (k + 1) (by omega)
  refine ⟨b && !bit ws k, ?_, fun Kx Kr => ?_⟩
  ·simp only [Bool.and_eq_true, Bool.not_eq_true', hb]
   constructor
   ·rintro ⟨h1, h2⟩ i hi
    rcases Nat.lt_or_eq_of_le hi with h' | rfl
    ·exact h1 i h'
    ·exact h2
   ·exact fun h => ⟨fun i hi => h i (by omega), h k (Nat.le_refl _)⟩
  ·refine Ev.suc.trans ?_
   have e : ((k : Int) + 1) = ((k + 1 : Nat) : Int) := by omega
   simp (disch := omega) only [Z44.l4, Z44.l4.b, W_len, wrap64, if_pos, decide_eq_true_eq, l1Bit_ev hw _ hl, Ev.iteI, Bool.not_eq_true', decide_eq_false_iff_not, e, kk, Ev.s0 Kx, Ev.s1 Kr]
   cases bit ws k <;> simp
theorem top_last {w : Int} {ws : List Nat} (hw : Below 18446744073709551616 ws) (h1 : 1 <= w) (h2 : (ws.length : Int) = (w + 63) / 64) (hr : w % 64 ≠ 0) :
  ws.getD (ws.length - 1) 0 >>> (w % 64).toNat = 0 ↔ ∀ i : Nat, w <= i -> bit ws i = false := by
 constructor
 ·intro h i hi
  by_cases ho : 64 * ws.length <= i
  ·exact bit_out ho
  ·have e1 : i / 64 = ws.length - 1 := by omega
   have := congrArg (fun y => Nat.testBit y (i % 64 - (w % 64).toNat)) h
   simp only [Nat.testBit_shiftRight, Nat.zero_testBit] at this
   rw [show (w % 64).toNat + (i % 64 - (w % 64).toNat) = i % 64 from by omega] at this
   rw [bit, e1]; exact this
 ·intro h
  apply Nat.eq_of_testBit_eq
  intro j
  rw [Nat.testBit_shiftRight, Nat.zero_testBit]
  by_cases hj : (w % 64).toNat + j < 64
  ·have := h (64 * (ws.length - 1) + ((w % 64).toNat + j)) (by omega)
   rw [bit, show (64 * (ws.length - 1) + ((w % 64).toNat + j)) / 64 = ws.length - 1 from by omega, show (64 * (ws.length - 1) + ((w % 64).toNat + j)) % 64 = (w % 64).toNat + j from by omega] at this
   exact this
  ·exact Nat.testBit_lt_two_pow (Nat.lt_of_lt_of_le (hw.getD (by decide) _) (Nat.pow_le_pow_right (n := 2) (by decide) (Nat.not_lt.mp hj)))
theorem bitsOk_W {w : Int} {ws : List Nat} (hw : Below 18446744073709551616 ws) : bitsOk w (W ws) = true ↔ 1 <= w /\ w <= 4096 /\ (ws.length : Int) = (w + 63) / 64 /\ ∀ i : Nat, w <= i -> bit ws i = false := by
 rw [bitsOk, decide_eq_true_eq, W_len, W_rd]
 refine ⟨fun ⟨h1, h2, h3, h4⟩ => ⟨h1, h2, h3, ?_⟩, fun ⟨h1, h2, h3, h4⟩ => ⟨h1, h2, h3, ?_⟩⟩
 ·by_cases h5 : w % 64 = 0
  ·exact fun i hi => bit_out (by omega)
  ·rcases h4 with h4 | h4
   ·exact absurd h4 h5
   ·rw [<- top_last hw h1 h3 h5, Nat.shiftRight_eq_div_pow]
    exact_mod_cast h4
 ·by_cases h5 : w % 64 = 0
  ·exact Or.inl h5
  ·have := (top_last hw h1 h3 h5).2 h4
   rw [Nat.shiftRight_eq_div_pow] at this
   exact Or.inr (by exact_mod_cast this)
theorem Wd.of {l : List Int} (h : Wd l) : ∃ ws, l = W ws /\ Below 18446744073709551616 ws := W_of fun x hx => ⟨(h x hx).1, by have := (h x hx).2; omega⟩
theorem specOk_ev {w : Int} {l : List Int} (hw : Wd l) (R : Nat -> Bool -> Prop) : Ev (fun n => Z44.c n w l (R n)) ↔ Ev (fun n => R n (bitsOk w l)) := by
 obtain ⟨ws, rfl, hB⟩ := hw.of
 have hiff := bitsOk_W (w := w) hB
 refine Ev.suc.trans ?_
 simp (disch := omega) only [Z44.c, Z44.w, l1In_ev, Ev.iteI, Bool.not_eq_false', Bool.not_eq_true', decide_eq_true_eq, decide_eq_false_iff_not, W_len]
 by_cases h1 : 1 <= w /\ w <= 4096
 ·rw [if_pos h1, wrap64 (x := w + 63) (by omega) (by omega), tdivP (by omega), wrap64 (by omega) (by omega)]
  by_cases h2 : (ws.length : Int) = (w + 63) / 64
  ·obtain ⟨b, hb, kk⟩ := specOk_lp hB (by omega) (w := w) (64 * ws.length - w.toNat) w.toNat (by omega)
   have e : ((w.toNat : Nat) : Int) = w := by omega
   rw [e] at kk
   rw [if_neg (by omega), kk, Ev.s1 R, Ev.s1 R]
   have : b = bitsOk w (W ws) := by
    rw [Bool.eq_iff_iff, hb, hiff]
    exact ⟨fun h => ⟨h1.1, h1.2, h2, fun i hi => h i (by omega)⟩, fun h i hi => h.2.2.2 i (by omega)⟩
   rw [<- this]
   cases b <;> rfl
  ·rw [if_pos h2, Ev.s1 R]
   have : bitsOk w (W ws) = false := by
    rw [Bool.eq_false_iff]; intro h; exact h2 (hiff.1 h).2.2.1
   rw [this]
 ·rw [if_neg h1, Ev.s1 R]
  have : bitsOk w (W ws) = false := by
   rw [Bool.eq_false_iff]; intro h; exact h1 ⟨(hiff.1 h).1, (hiff.1 h).2.1⟩
  rw [this]
theorem implOk_ev {w : Int} {l : List Int} (R : Nat -> Bool -> Prop) : Ev (fun n => Z0.c n w l (R n)) ↔ Ev (fun n => R n (bitsOk w l)) := by
 refine Ev.suc.trans ?_
 simp only [Z0.c, Z0.w, inside_ev, Ev.iteI, Ev.andI, Bool.not_eq_false', Bool.not_eq_true', decide_eq_true_eq, decide_eq_false_iff_not, Ev.s1 R, and_self]
 by_cases h1 : 1 <= w /\ w <= 4096
 ·rw [if_pos h1]
  simp (disch := omega) only [wordsFor_ev, Ev.iteI, Bool.not_eq_true', decide_eq_false_iff_not, Ev.s1 R]
  by_cases h2 : (l.length : Int) = (w + 63) / 64
  ·rw [if_neg (by omega)]
   simp (disch := omega) only [Z0.j0, tmodP, Ev.iteI, decide_eq_false_iff_not, wrap64, grd_dec2, grd_dec, Ev.s1 R]
   by_cases h3 : w % 64 = 0
   ·rw [if_neg (by omega), show bitsOk w l = true from by simp [bitsOk, h1, h2, h3]]
   ·rw [if_pos h3]
    refine ev_arg ?_
    have e1 : ((l.length : Int) - 1).toNat = l.length - 1 := by omega
    have e2 : Nat.min (w % 64).toNat 64 = (w % 64).toNat := Nat.min_eq_left (by omega)
    rw [e1, e2, fdivP (Int.le_of_lt (Int.pow_pos (by decide)))]
    simp [bitsOk, h1, h2, h3]
  ·rw [if_pos h2, show bitsOk w l = false from by simp [bitsOk, h2]]
 ·rw [if_neg h1, show bitsOk w l = false from by
   rw [Bool.eq_false_iff]; intro h; rw [bitsOk, decide_eq_true_eq] at h; exact h1 ⟨h.1, h.2.1⟩]
end Go.Vsi
end

section
set_option linter.unusedVariables false
set_option linter.unusedSimpArgs false
set_option synthInstance.maxSize 4096
namespace Go.Vsi
theorem getD_cons {l ys : List UInt8} {x : Int} {y : UInt8} (h : l.drop x.toNat = y :: ys) (h0 : 0 <= x) : x < (l.length : Int) /\ List.getD l x.toNat 0 = y /\ l.drop (x + 1).toNat = ys :=
 drop_cons h h0
def chOk (c : UInt8) : Bool := decide ((97 <= (c.toNat : Int) /\ (c.toNat : Int) <= 122) \/ (48 <= (c.toNat : Int) /\ (c.toNat : Int) <= 57))
def nameOk (s : List UInt8) : Bool := decide (1 <= s.length /\ s.length <= 12 /\ 97 <= ((List.getD s 0 0).toNat : Int) /\ ((List.getD s 0 0).toNat : Int) <= 122) && s.all chOk
theorem nameOk_lp {s : List UInt8} (hl : s.length <= 1099511627776) : ∀ (ys : List UInt8) (x : Int), s.drop x.toNat = ys -> 0 <= x -> ∀ (Kx : Nat -> Prop) (Kr : Nat -> Bool -> Prop),
  (Ev (fun n => Z11.l4 n s x (Kx n) (Kr n)) ↔ if ys.all chOk = true then Ev Kx else Ev (fun n => Kr n false))
 | [], x, h, h0, Kx, Kr => by
  have := drop_nil h h0
  refine Ev.suc.trans ?_
  simp (disch := omega) only [Z11.l4, Z11.l4.b, if_neg, decide_eq_true_eq, Ev.s0 Kx, List.all_nil, if_true]
 | y :: ys, x, h, h0, Kx, Kr => by
  obtain ⟨e1, e2, e3⟩ := getD_cons h h0
  refine Ev.suc.trans ?_
  simp (disch := omega) only [Z11.l4, Z11.l4.b, if_pos, decide_eq_true_eq, decide_eq_false_iff_not, grd_dec2, e2, wrap64, Ev.iteI, nameOk_lp hl ys (x + 1) e3, Ev.s0 Kx, Ev.s1 Kr, List.all_cons, Bool.and_eq_true]
  simp only [chOk, decide_eq_true_eq]
  (repeat' split) <;> first | rfl | (exfalso; omega) | (exfalso; simp_all; omega) | (simp_all; done)
theorem nameOk_ev {s : List UInt8} (R : Nat -> Bool -> Prop) : Ev (fun n => Z11.c n s (R n)) ↔ Ev (fun n => R n (nameOk s)) := by
 refine Ev.suc.trans ?_
 simp only [Z11.c, Z11.w, Ev.iteI, decide_eq_true_eq, decide_eq_false_iff_not, nameOk]
 by_cases h1 : 1 <= s.length /\ s.length <= 12
 ·rw [if_pos (by omega), if_pos (by omega)]
  simp (disch := omega) only [grd_dec, Ev.iteI, nameOk_lp (by omega) s 0 rfl, Ev.s1 R, decide_eq_false_iff_not, decide_eq_true_eq]
  by_cases h2 : 97 <= ((List.getD s 0 0).toNat : Int) /\ ((List.getD s 0 0).toNat : Int) <= 122
  ·rw [if_pos (by omega), if_neg (by omega)]
   rw [show (decide (1 <= s.length /\ s.length <= 12 /\ 97 <= ((List.getD s 0 0).toNat : Int) /\ ((List.getD s 0 0).toNat : Int) <= 122)) = true from by rw [decide_eq_true_eq]; omega, Bool.true_and]
   exact ev_bool
  ·rw [show (decide (1 <= s.length /\ s.length <= 12 /\ 97 <= ((List.getD s 0 0).toNat : Int) /\ ((List.getD s 0 0).toNat : Int) <= 122)) = false from by rw [decide_eq_false_iff_not]; omega, Bool.false_and]
   split <;> (try split) <;> first | rfl | (exfalso; omega)
 ·rw [show (decide (1 <= s.length /\ s.length <= 12 /\ 97 <= ((List.getD s 0 0).toNat : Int) /\ ((List.getD s 0 0).toNat : Int) <= 122)) = false from by rw [decide_eq_false_iff_not]; omega, Bool.false_and, Ev.s1 R]
  split <;> (try split) <;> first | rfl | (exfalso; omega)
theorem l1Digit_ev {a : Int} (R : Nat -> Bool -> Prop) : Ev (fun n => Z51.c n a (R n)) ↔ Ev (fun n => R n (decide (48 <= a /\ a <= 57))) := by
 refine Ev.suc.trans ?_
 simp only [Z51.c, Z51.w, Ev.iteI, decide_eq_true_eq, Ev.s1 R, ge_iff_le]
 split
 ·refine ev_arg ?_; rw [decide_eq_decide]; omega
 ·refine ev_arg ?_; symm; rw [decide_eq_false_iff_not]; omega
theorem l1Name_lp {s : List UInt8} (hl : s.length <= 1099511627776) : ∀ (ys : List UInt8) (x : Int), s.drop x.toNat = ys -> 0 <= x -> ∀ (Kx : Nat -> Prop) (Kr : Nat -> Bool -> Prop),
  (Ev (fun n => Z54.l4 n s x (Kx n) (Kr n)) ↔ if ys.all chOk = true then Ev Kx else Ev (fun n => Kr n false))
 | [], x, h, h0, Kx, Kr => by
  have := drop_nil h h0
  refine Ev.suc.trans ?_
  simp (disch := omega) only [Z54.l4, Z54.l4.b, if_neg, decide_eq_true_eq, Ev.s0 Kx, List.all_nil, if_true]
 | y :: ys, x, h, h0, Kx, Kr => by
  obtain ⟨e1, e2, e3⟩ := getD_cons h h0
  refine Ev.suc.trans ?_
  simp (disch := omega) only [Z54.l4, Z54.l4.b, if_pos, decide_eq_true_eq, decide_eq_false_iff_not, Bool.not_eq_true', grd_dec2, e2, wrap64, l1Digit_ev, Ev.iteI, l1Name_lp hl ys (x + 1) e3, Ev.s0 Kx, Ev.s1 Kr, List.all_cons, Bool.and_eq_true]
  simp only [chOk, decide_eq_true_eq]
  (repeat' split) <;> first | rfl | (exfalso; omega) | (exfalso; simp_all; omega) | (simp_all; done)
theorem l1Name_ev {s : List UInt8} (R : Nat -> Bool -> Prop) : Ev (fun n => Z54.c n s (R n)) ↔ Ev (fun n => R n (nameOk s)) := by
 refine Ev.suc.trans ?_
 simp only [Z54.c, Z54.w, Ev.iteI, decide_eq_true_eq, decide_eq_false_iff_not, nameOk]
 by_cases h1 : 1 <= s.length /\ s.length <= 12
 ·rw [if_pos (by omega), if_pos (by omega)]
  simp (disch := omega) only [grd_dec, l1Digit_ev, Ev.iteI, l1Name_lp (by omega) s 0 rfl, Ev.s1 R, decide_eq_false_iff_not, decide_eq_true_eq]
  match s, h1 with
  | c :: r, h1 =>
   have e : (List.getD (c :: r) 0 0) = c := rfl
   rw [e]
   by_cases h2 : 48 <= (c.toNat : Int) /\ (c.toNat : Int) <= 57
   ·rw [if_pos h2, show (decide (1 <= (c :: r).length /\ (c :: r).length <= 12 /\ 97 <= (c.toNat : Int) /\ (c.toNat : Int) <= 122)) = false from by rw [decide_eq_false_iff_not]; omega, Bool.false_and]
   ·rw [if_neg h2]
    by_cases h3 : chOk c = true
    ·have : 97 <= (c.toNat : Int) /\ (c.toNat : Int) <= 122 := by
      rw [chOk, decide_eq_true_eq] at h3; omega
     rw [show (decide (1 <= (c :: r).length /\ (c :: r).length <= 12 /\ 97 <= (c.toNat : Int) /\ (c.toNat : Int) <= 122)) = true from by rw [decide_eq_true_eq]; omega, Bool.true_and]
     exact ev_bool
    ·rw [List.all_cons, if_neg (by simp [h3]), show chOk c = false from by simpa using h3, Bool.false_and, Bool.and_false]
  | [], h1 => simp at h1
 ·rw [show (decide (1 <= s.length /\ s.length <= 12 /\ 97 <= ((List.getD s 0 0).toNat : Int) /\ ((List.getD s 0 0).toNat : Int) <= 122)) = false from by rw [decide_eq_false_iff_not]; omega, Bool.false_and, Ev.s1 R]
  split <;> (try split) <;> first | rfl | (exfalso; omega)
theorem declared1_ev {a : List UInt8} {b : Int} {z : List UInt8} (R : Nat -> Bool -> Prop) : Ev (fun n => Z9.c n a b z (R n)) ↔ Ev (fun n => R n (decide (a = z))) := by
 refine Ev.suc.trans ?_
 simp only [Z9.c, Z9.w, Ev.s1 R]
 refine ev_arg ?_
 rw [Bool.eq_iff_iff]; simp
theorem Z42_lp {l : List tDecl} {z : List UInt8} (hl : l.length <= 1099511627776) : ∀ (ys : List tDecl) (x : Int), l.drop x.toNat = ys -> 0 <= x ->
  ∀ (Kx : Nat -> Prop) (Kr : Nat -> Int -> Prop),
  (Ev (fun n => Z42.l2 n l z l.length x (Kx n) (Kr n)) ↔ if firstIx (fun y => decide (y.1 = z)) ys x < 0 then Ev Kx else Ev (fun n => Kr n (firstIx (fun y => decide (y.1 = z)) ys x)))
 | [], x, h, h0, Kx, Kr => by
  have := drop_nil h h0
  rw [firstIx, if_pos (by decide)]
  refine Ev.suc.trans ?_
  simp (disch := omega) only [Z42.l2, Z42.l2.b, if_neg, decide_eq_true_eq, Ev.s0 Kx]
 | y :: ys, x, h, h0, Kx, Kr => by
  obtain ⟨e1, e2, e3⟩ := drop_cons h h0
  refine Ev.suc.trans ?_
  simp (disch := first | omega | omega) only [Z42.l2, Z42.l2.b, if_pos, decide_eq_true_eq, grd_dec2, e2, wrap64, Ev.s1 Kr, declared1_ev, Ev.iteI]
  rw [Z42_lp hl ys (x + 1) e3 (by omega), Ev.s0 Kx, Ev.s1 Kr]
  simp only [firstIx, decide_eq_true_eq]
  split
  ·rw [if_neg (by omega)]
  ·rfl
theorem Z42_ev {l : List tDecl} {z : List UInt8} (hl : l.length <= 1099511627776) (R : Nat -> Int -> Prop) :
  Ev (fun n => Z42.c n l z (R n)) ↔ Ev (fun n => R n (firstIx (fun y => decide (y.1 = z)) l 0)) := by
 refine Ev.suc.trans ?_
 simp only [Z42.c, Z42.w]
 rw [Z42_lp hl l 0 rfl (by omega), Ev.s1 R, Ev.s1 R]
 split
 ·rw [firstIx_neg (by omega) ‹_›]
 ·rfl
theorem declared_ev {l : List tDecl} {z : List UInt8} (hl : l.length <= 1099511627776) (R : Nat -> Int -> Prop) : Ev (fun n => Z8.c n l z (R n)) ↔ Ev (fun n => R n (firstIx (fun y => decide (y.1 = z)) l 0)) := by
 refine Ev.suc.trans ?_
 simp only [Z8.c, Z8.w]
 rw [Z42_ev hl, Ev.s1 R]
def declsGo : List tDecl -> List tDecl -> Int -> Bool
 | _, [], t => decide (t <= 20000)
 | pre, y :: r, t => nameOk y.1 && decide (1 <= y.2 /\ y.2 <= 4096) && !(pre.any fun z => decide (z.1 = y.1)) && declsGo (pre ++ [y]) r (t + y.2)
def declsOk (l : List tDecl) : Bool := decide (l.length <= 60) && declsGo [] l 0
theorem take_succ {α : Type} {l ys : List α} {x : Int} {y : α} (h : l.drop x.toNat = y :: ys) (h0 : 0 <= x) : l.take (x + 1).toNat = l.take x.toNat ++ [y] := by
 have hl : x.toNat < l.length := by
  rcases Nat.lt_or_ge x.toNat l.length with h' | h'
  ·exact h'
  ·rw [List.drop_eq_nil_of_le h'] at h; cases h
 rw [show (x + 1).toNat = x.toNat + 1 from by omega, List.take_succ_eq_append_getElem hl]
 congr 2
 have := List.getElem?_drop (xs := l) (i := x.toNat) (j := 0)
 rw [h] at this
 simp only [List.getElem?_cons_zero, Nat.add_zero, List.getElem?_eq_getElem hl, Option.some.injEq] at this
 exact this.symm
theorem declsOk_lp {l : List tDecl} (hl : l.length <= 60) : ∀ (ys : List tDecl) (x t : Int), l.drop x.toNat = ys -> 0 <= x -> 0 <= t -> t <= 4096 * x -> ∀ (R : Nat -> Bool -> Prop),
  (Ev (fun n => Z1.l5 n l l l.length t x (fun y => R n (decide (y <= 20000))) (R n)) ↔ Ev (fun n => R n (declsGo (l.take x.toNat) ys t)))
 | [], x, t, h, h0, ht, ht', R => by
  have := drop_nil h h0
  refine Ev.suc.trans ?_
  simp (disch := omega) only [Z1.l5, Z1.l5.b, if_neg, decide_eq_true_eq, Ev.s1 R, declsGo]
 | y :: ys, x, t, h, h0, ht, ht', R => by
  obtain ⟨e1, e2, e3⟩ := drop_cons h h0
  refine Ev.suc.trans ?_
  have hd : (List.drop 0 (List.take x.toNat l)).length <= 1099511627776 := by simp; omega
  simp (disch := omega) only [Z1.l5, Z1.l5.b, if_pos, decide_eq_true_eq, grd_dec2, e2, nameOk_ev, inside_ev, Ev.iteI, Bool.not_eq_false', Ev.s1 R, declsGo]
  by_cases h1 : nameOk y.1 = true
  ·by_cases h2 : 1 <= y.2 /\ y.2 <= 4096
   ·rw [if_pos h1, if_pos h2]
    simp (disch := omega) only [grd_dec3, declared_ev hd, Ev.iteI, wrap64, ge_iff_le]
    rw [declsOk_lp hl ys (x + 1) (t + y.2) e3 (by omega) (by omega) (by omega), Ev.s1 R, Ev.s1 R, take_succ h h0]
    have e := firstIx_any (p := fun z : tDecl => decide (z.1 = y.1)) (l := List.take x.toNat l) (x := 0) (by omega)
    rw [List.drop_zero]
    by_cases h3 : 0 <= firstIx (fun z : tDecl => decide (z.1 = y.1)) (List.take x.toNat l) 0
    ·rw [if_pos h3, <- e]; simp [h1, h2, h3]
    ·rw [if_neg h3, <- e]; simp [h1, h2, h3]
   ·rw [if_pos h1, if_neg h2]; simp [h1, h2]
  ·rw [if_neg h1]; simp [h1]
theorem declsOk_ev {l : List tDecl} (R : Nat -> Bool -> Prop) : Ev (fun n => Z1.c n l (R n)) ↔ Ev (fun n => R n (declsOk l)) := by
 refine Ev.suc.trans ?_
 simp only [Z1.c, Z1.w, Ev.iteI, decide_eq_true_eq, declsOk]
 by_cases h : l.length <= 60
 ·rw [if_neg (by omega), declsOk_lp h l 0 0 rfl (by omega) (by omega) (by omega) (fun n => R (n + 1)), Ev.s1 R]
  simp [h]
 ·rw [if_pos (by omega), Ev.s1 R]; simp [h]
theorem declsOkS_in {l : List tDecl} {t i : Int} {y : tDecl} (hl : l.length <= 60) (hi : rd l i.toNat = y) (hi0 : 0 <= i) (hi1 : i < (l.length : Int)) : ∀ (m : Nat) (k : Int), k + m = i -> 0 <= k -> ∀ (Kx : Nat -> List tDecl -> Int -> Int -> Prop) (Kr : Nat -> Bool -> Prop),
  (Ev (fun n => Z45.l10 n l t i k (Kx n) (Kr n)) ↔ if (((l.take i.toNat).drop k.toNat).any fun z => decide (z.1 = y.1)) = true then Ev (fun n => Kr n false) else Ev (fun n => Kx n l t i))
 | 0, k, h, h0, Kx, Kr => by
  refine Ev.suc.trans ?_
  simp (disch := omega) only [Z45.l10, Z45.l10.b, if_neg, decide_eq_true_eq, Ev.s3 Kx]
  rw [List.drop_eq_nil_of_le (by simp; omega)]
  simp
 | m + 1, k, h, h0, Kx, Kr => by
  refine Ev.suc.trans ?_
  have e : (l.take i.toNat).drop k.toNat = rd l k.toNat :: (l.take i.toNat).drop (k + 1).toNat := by
   have hk : k.toNat < (l.take i.toNat).length := by simp; omega
   rw [List.drop_eq_getElem_cons hk, show (k + 1).toNat = k.toNat + 1 from by omega]
   congr 1
   rw [List.getElem_take, rd, List.getD_eq_getElem?_getD, List.getElem?_eq_getElem (by omega)]; rfl
  simp (disch := omega) only [Z45.l10, Z45.l10.b, if_pos, decide_eq_true_eq, grd_dec2, hi, wrap64, Ev.iteI, beq_iff_eq, Ev.s1 Kr, e, List.any_cons, Bool.or_eq_true]
  rw [declsOkS_in hl hi hi0 hi1 m (k + 1) (by omega) (by omega), Ev.s1 Kr, Ev.s3 Kx]
  (repeat' split) <;> first | rfl | (exfalso; simp_all; done)
theorem declsOkS_lp {l : List tDecl} (hl : l.length <= 60) : ∀ (ys : List tDecl) (x t : Int), l.drop x.toNat = ys -> 0 <= x -> 0 <= t -> t <= 4096 * x -> ∀ (R : Nat -> Bool -> Prop),
  (Ev (fun n => Z45.l5 n l t x (fun y => R n (decide (y <= 20000))) (R n)) ↔ Ev (fun n => R n (declsGo (l.take x.toNat) ys t)))
 | [], x, t, h, h0, ht, ht', R => by
  have := drop_nil h h0
  refine Ev.suc.trans ?_
  simp (disch := omega) only [Z45.l5, Z45.l5.b, if_neg, decide_eq_true_eq, Ev.s1 R, declsGo]
 | y :: ys, x, t, h, h0, ht, ht', R => by
  obtain ⟨e1, e2, e3⟩ := drop_cons h h0
  refine Ev.suc.trans ?_
  simp (disch := omega) only [Z45.l5, Z45.l5.b, if_pos, decide_eq_true_eq, grd_dec2, e2, l1Name_ev, l1In_ev, Ev.iteI, Bool.not_eq_false', Bool.not_eq_true', decide_eq_false_iff_not, Ev.s1 R, declsGo, Z45.j3]
  by_cases h1 : nameOk y.1 = true
  ·by_cases h2 : 1 <= y.2 /\ y.2 <= 4096
   ·rw [if_pos h1, if_neg (by omega), declsOkS_in hl e2 h0 e1 x.toNat 0 (by omega) (by omega), Ev.s1 R]
    simp (disch := omega) only [grd_dec2, e2, wrap64]
    rw [declsOkS_lp hl ys (x + 1) (t + y.2) e3 (by omega) (by omega) (by omega) (fun n => R (n + 1)), Ev.s1 R, take_succ h h0, show (0 : Int).toNat = 0 from rfl, List.drop_zero]
    split
    ·rename_i h3; simp [h1, h2, h3]
    ·rename_i h3; simp only [Bool.not_eq_true] at h3; simp [h1, h2, h3]
   ·rw [if_pos h1, if_pos h2]; simp [h1, h2]
  ·rw [if_neg h1]; simp [h1]
theorem declsOkS_ev {l : List tDecl} (R : Nat -> Bool -> Prop) : Ev (fun n => Z45.c n l (R n)) ↔ Ev (fun n => R n (declsOk l)) := by
 refine Ev.suc.trans ?_
 simp only [Z45.c, Z45.w, Ev.iteI, decide_eq_true_eq, declsOk]
 by_cases h : l.length <= 60
 ·rw [if_neg (by omega), declsOkS_lp h l 0 0 rfl (by omega) (by omega) (by omega) (fun n => R (n + 1)), Ev.s1 R]
  simp [h]
 ·rw [if_pos (by omega), Ev.s1 R]; simp [h]
end Go.Vsi
end

section
set_option linter.unusedVariables false
set_option linter.unusedSimpArgs false
set_option synthInstance.maxSize 4096
namespace Go.Vsi
def nodeW (d : List tDecl) (x : tTNode) (kw : List Int) : Int :=
 if x.1 = 1 /\ kw.length = 0 /\ 0 <= x.2.1 /\ x.2.1 <= (d.length : Int) - 1 then (rd d x.2.1.toNat).2
 else if x.1 = 2 /\ kw.length = 0 /\ bitsOk x.2.2.2.2.1 x.2.2.2.2.2.1 = true then x.2.2.2.2.1
 else if x.1 = 3 /\ 1 < kw.length then kw.sum
 else if kw.length ≠ 1 then -1
 else if x.1 = 4 /\ 0 <= x.2.2.2.1 /\ x.2.2.2.1 <= x.2.2.1 /\ x.2.2.1 < rd kw 0 then x.2.2.1 - x.2.2.2.1 + 1
 else if (x.1 = 5 \/ x.1 = 6) /\ 0 <= x.2.2.1 /\ x.2.2.1 <= 4096 then rd kw 0 + x.2.2.1
 else if (x.1 = 7 \/ x.1 = 8) /\ 0 <= x.2.2.1 /\ x.2.2.1 <= 4096 then rd kw 0
 else if x.1 = 9 /\ 1 <= x.2.2.1 /\ x.2.2.1 <= 4096 then rd kw 0 * x.2.2.1
 else -1
theorem mulB {a b : Int} (h1 : 0 <= a) (h2 : a <= 8192) (h3 : 0 <= b) (h4 : b <= 4096) : 0 <= a * b /\ a * b <= 33554432 :=
 ⟨Int.mul_nonneg h1 h3, Int.le_trans (Int.mul_le_mul h2 h4 h3 (by decide)) (by decide)⟩
theorem width_lp {kw : List Int} (hl : kw.length <= 4096) (hk : ∀ w ∈ kw, 0 <= w /\ w <= 4096) : ∀ (ys : List Int) (x s : Int), kw.drop x.toNat = ys -> 0 <= x -> 0 <= s -> s <= 4096 * x -> ∀ (Kx : Nat -> Int -> Prop),
  (Ev (fun n => Z4.l11 n kw kw.length s x (Kx n)) ↔ Ev (fun n => Kx n (s + ys.sum)))
 | [], x, s, h, h0, hs, hs', Kx => by
  have := drop_nil h h0
  refine Ev.suc.trans ?_
  simp (disch := omega) only [Z4.l11, Z4.l11.b, if_neg, decide_eq_true_eq, Ev.s1 Kx, List.sum_nil, Int.add_zero]
 | y :: ys, x, s, h, h0, hs, hs', Kx => by
  obtain ⟨e1, e2, e3⟩ := drop_cons h h0
  have hy : y ∈ kw := by
   have : y ∈ kw.drop x.toNat := by rw [h]; exact List.mem_cons_self
   exact List.mem_of_mem_drop this
  have hy' := hk y hy
  refine Ev.suc.trans ?_
  simp (disch := omega) only [Z4.l11, Z4.l11.b, if_pos, decide_eq_true_eq, grd_dec2, e2, wrap64]
  rw [width_lp hl hk ys (x + 1) (s + y) e3 (by omega) (by omega) (by omega), Ev.s1 Kx]
  refine ev_arg ?_
  rw [List.sum_cons]; omega
theorem width_q21 {x : tTNode} {f : Int} {b : Bool} (K : Nat -> Int -> Prop) (S : Nat -> Prop) :
  Ev (fun n => Z4.q21 n x f b (K n) (S n)) ↔ if b = true then Ev (fun n => K n (IntKind.wrap .i64 (f + x.2.2.1))) else
   if (x.1 = 7 \/ x.1 = 8) /\ 0 <= x.2.2.1 /\ x.2.2.1 <= 4096 then Ev (fun n => K n f) else if x.1 = 9 /\ 1 <= x.2.2.1 /\ x.2.2.1 <= 4096 then Ev (fun n => K n (IntKind.wrap .i64 (f * x.2.2.1))) else Ev S := by
 refine Ev.suc.trans ?_
 simp only [Z4.q21, Z4.q21.b, Z4.j0, inside_ev, Ev.iteI, decide_eq_true_eq, decide_eq_false_iff_not, Ev.s1 K, Ev.s0 S, Bool.false_eq_true, if_false]
 (repeat' split) <;> first | rfl | (exfalso; omega)
theorem width_q9 {x : tTNode} {kw : List Int} {b : Bool} (hl : kw.length <= 4096) (hk : ∀ w ∈ kw, 0 <= w /\ w <= 4096) (hb : b = true ↔ x.1 = 3 /\ 1 < kw.length) (K : Nat -> Int -> Prop) (S : Nat -> Prop) :
  Ev (fun n => Z4.q9 n x kw (rd kw 0) b (K n) (S n)) ↔ if x.1 = 3 /\ 1 < kw.length then Ev (fun n => K n kw.sum) else if kw.length ≠ 1 then Ev (fun n => K n (-1)) else
   if x.1 = 4 /\ 0 <= x.2.2.2.1 /\ x.2.2.2.1 <= x.2.2.1 /\ x.2.2.1 < rd kw 0 then Ev (fun n => K n (x.2.2.1 - x.2.2.2.1 + 1))
   else if (x.1 = 5 \/ x.1 = 6) /\ 0 <= x.2.2.1 /\ x.2.2.1 <= 4096 then Ev (fun n => K n (rd kw 0 + x.2.2.1))
   else if (x.1 = 7 \/ x.1 = 8) /\ 0 <= x.2.2.1 /\ x.2.2.1 <= 4096 then Ev (fun n => K n (rd kw 0))
   else if x.1 = 9 /\ 1 <= x.2.2.1 /\ x.2.2.1 <= 4096 then Ev (fun n => K n (rd kw 0 * x.2.2.1)) else Ev S := by
 refine Ev.suc.trans ?_
 simp only [Z4.q9, Z4.q9.b, Z4.j1, Ev.iteI, hb]
 by_cases h3 : x.1 = 3 /\ 1 < kw.length
 ·rw [if_pos h3, if_pos h3, width_lp hl hk kw 0 0 rfl (by omega) (by omega) (by omega), Ev.s1 K, Int.zero_add]
 rw [if_neg h3, if_neg h3]
 by_cases h1 : kw.length = 1
 ·have hf : 0 <= rd kw 0 /\ rd kw 0 <= 4096 := by
   match kw, h1, hk with
   | [w], _, hk => exact hk w List.mem_cons_self
  have h1' : (kw.length : Int) = 1 := by omega
  rw [if_neg (c := kw.length ≠ 1) (by omega)]
  simp only [h1', decide_true, Bool.not_true, Bool.false_eq_true, if_false]
  simp only [width_q21, inside_ev, Ev.iteI, decide_eq_true_eq, decide_eq_false_iff_not, Ev.s1 K, Ev.s0 S, Bool.false_eq_true, if_false, ge_iff_le]
  by_cases h4 : x.1 = 4
  ·simp only [h4, true_and, if_true, show ¬ (4 : Int) = 5 from by decide, show ¬ (4 : Int) = 6 from by decide, show ¬ (4 : Int) = 7 from by decide, show ¬ (4 : Int) = 8 from by decide, show ¬ (4 : Int) = 9 from by decide, or_self, false_and, if_false, not_false_eq_true]
   by_cases g1 : 0 <= x.2.2.2.1
   ·by_cases g2 : x.2.2.2.1 <= x.2.2.1
    ·by_cases g3 : x.2.2.1 < rd kw 0
     ·simp (disch := omega) only [g1, g2, g3, and_self, if_true, wrap64, decide_true]
     ·simp only [g1, g2, g3, and_false, if_true, if_false, decide_false, Bool.false_eq_true]
    ·simp only [g1, g2, false_and, and_false, if_true, if_false]
   ·simp only [g1, false_and, if_false]
  ·simp only [h4, false_and, if_false]
   by_cases h5 : (x.1 = 5 \/ x.1 = 6) /\ 0 <= x.2.2.1 /\ x.2.2.1 <= 4096
   ·have e : IntKind.wrap .i64 (rd kw 0 + x.2.2.1) = rd kw 0 + x.2.2.1 := wrap64 (by omega) (by omega)
    rw [if_pos h5, e]
    rcases h5 with ⟨h5 | h5, h6⟩
    ·simp only [h5, h6, not_true, if_false, if_true, and_self]
    ·simp only [h5, h6, show ¬ (6 : Int) = 5 from by decide, not_false_eq_true, if_true, and_self]
   ·rw [if_neg h5]
    have e : 1 <= x.2.2.1 /\ x.2.2.1 <= 4096 -> IntKind.wrap .i64 (rd kw 0 * x.2.2.1) = rd kw 0 * x.2.2.1 := fun h => by
     have := mulB hf.1 (by omega) (show 0 <= x.2.2.1 by omega) h.2
     exact wrap64 (by omega) (by omega)
    (repeat' split) <;> first | rfl | (exfalso; omega) | (exfalso; simp_all; done) | (rw [e (by omega)])
 ·have h1' : ¬ (kw.length : Int) = 1 := by omega
  simp only [h1, h1', ne_eq, not_false_eq_true, if_true, decide_false, Bool.not_false, Ev.s1 K]
theorem width_q5 {x : tTNode} {d : List tDecl} {kw : List Int} {b : Bool} (hl : kw.length <= 4096) (hk : ∀ w ∈ kw, 0 <= w /\ w <= 4096) (hb : b = true ↔ x.1 = 1 /\ kw.length = 0 /\ 0 <= x.2.1 /\ x.2.1 <= (d.length : Int) - 1) (R : Nat -> Int -> Prop) :
  Ev (fun n => Z4.q5 n x d kw (rd kw 0) b (R n) (R n (-1))) ↔ Ev (fun n => R n (nodeW d x kw)) := by
 refine Ev.suc.trans ?_
 simp only [Z4.q5, Z4.q5.b, Z4.j2, Ev.iteI, nodeW]
 by_cases h1 : x.1 = 1 /\ kw.length = 0 /\ 0 <= x.2.1 /\ x.2.1 <= (d.length : Int) - 1
 ·simp (disch := omega) only [hb.2 h1, if_true, grd_dec2, Ev.s1 R]
  rw [if_pos h1]
 have hb' : ¬ b = true := fun h => h1 (hb.1 h)
 rw [if_neg hb', if_neg h1]
 have q9 : ∀ (c : Bool), (c = true ↔ x.1 = 3 /\ 1 < kw.length) -> ((Ev fun n => Z4.q9 n x kw (rd kw 0) c (R (n + 1)) (R (n + 1) (-1))) ↔ Ev (fun n => R n (if x.1 = 3 /\ 1 < kw.length then kw.sum
   else if kw.length ≠ 1 then -1
   else if x.1 = 4 /\ 0 <= x.2.2.2.1 /\ x.2.2.2.1 <= x.2.2.1 /\ x.2.2.1 < rd kw 0 then x.2.2.1 - x.2.2.2.1 + 1
   else if (x.1 = 5 \/ x.1 = 6) /\ 0 <= x.2.2.1 /\ x.2.2.1 <= 4096 then rd kw 0 + x.2.2.1
   else if (x.1 = 7 \/ x.1 = 8) /\ 0 <= x.2.2.1 /\ x.2.2.1 <= 4096 then rd kw 0
   else if x.1 = 9 /\ 1 <= x.2.2.1 /\ x.2.2.1 <= 4096 then rd kw 0 * x.2.2.1
   else -1))) := fun c hc => by
  rw [width_q9 hl hk hc (fun n => R (n + 1)) (fun n => R (n + 1) (-1))]
  simp only [Ev.s1 R]
  (repeat' split) <;> first | rfl | (exfalso; omega)
 simp only [decide_eq_true_eq, Bool.false_eq_true, if_false, implOk_ev, Ev.iteI, Ev.s1 R]
 have f3 : ¬ (x.1 = 3 /\ 1 < kw.length) -> (false = true ↔ x.1 = 3 /\ 1 < kw.length) := fun h => iff_of_false Bool.false_ne_true h
 by_cases h2 : x.1 = 2
 ·have h3 : ¬ x.1 = 3 := by omega
  have h3' : ¬ (x.1 = 3 /\ 1 < kw.length) := by omega
  rw [if_pos h2]
  by_cases h4 : kw.length = 0
  ·have h4' : (kw.length : Int) = 0 := by omega
   rw [if_pos h4']
   by_cases h5 : bitsOk x.2.2.2.2.1 x.2.2.2.2.2.1 = true
   ·rw [if_pos h5, if_pos ⟨h2, h4, h5⟩]
   ·rw [if_neg h5, if_neg h3, q9 false (f3 h3'), if_neg (c := x.1 = 2 /\ kw.length = 0 /\ bitsOk x.2.2.2.2.1 x.2.2.2.2.2.1 = true) (fun h => h5 h.2.2)]
  ·have h4' : ¬ (kw.length : Int) = 0 := by omega
   rw [if_neg h4', if_neg h3, q9 false (f3 h3'), if_neg (c := x.1 = 2 /\ kw.length = 0 /\ bitsOk x.2.2.2.2.1 x.2.2.2.2.2.1 = true) (fun h => h4 h.2.1)]
 ·rw [if_neg h2, if_neg (c := x.1 = 2 /\ kw.length = 0 /\ bitsOk x.2.2.2.2.1 x.2.2.2.2.2.1 = true) (fun h => h2 h.1)]
  by_cases h3 : x.1 = 3
  ·rw [if_pos h3, q9 _ (by rw [decide_eq_true_eq]; omega)]
  ·rw [if_neg h3, q9 false (f3 (fun h => h3 h.1))]
theorem width_ev {x : tTNode} {d : List tDecl} {kw : List Int} (hd : d.length <= 1099511627776) (hl : kw.length <= 4096) (hk : ∀ w ∈ kw, 0 <= w /\ w <= 4096) (R : Nat -> Int -> Prop) :
  Ev (fun n => Z4.c n x d kw (R n)) ↔ Ev (fun n => R n (nodeW d x kw)) := by
 refine Ev.suc.trans ?_
 have key : ∀ (f : Int), f = rd kw 0 -> ((Ev fun n => Z4.j3 (R (n + 1)) x d kw (Z4.q5 n) n f) ↔ Ev (fun n => R n (nodeW d x kw))) := by
  rintro f rfl
  simp (disch := omega) only [Z4.j3, Ev.iteI, decide_eq_true_eq, inside_ev, wrap64]
  by_cases h1 : x.1 = 1
  ·by_cases h2 : (kw.length : Int) = 0
   ·rw [if_pos h1, if_pos h2, width_q5 hl hk (by rw [decide_eq_true_eq]; omega) (fun n => R (n + 1)), Ev.s1 R]
   ·rw [if_pos h1, if_neg h2, width_q5 hl hk (iff_of_false Bool.false_ne_true (by omega)) (fun n => R (n + 1)), Ev.s1 R]
  ·rw [if_neg h1, width_q5 hl hk (iff_of_false Bool.false_ne_true (by omega)) (fun n => R (n + 1)), Ev.s1 R]
 simp only [Z4.c, Z4.w, Ev.iteI, decide_eq_true_eq]
 by_cases h : (kw.length : Int) > 0
 ·rw [if_pos h]
  simp (disch := omega) only [grd_dec]
  exact key _ rfl
 ·rw [if_neg h]
  refine key 0 ?_
  match kw, h with
  | [], _ => rfl
  | _ :: _, h => simp at h
end Go.Vsi
end

section
set_option linter.unusedVariables false
set_option linter.unusedSimpArgs false
set_option synthInstance.maxSize 4096
namespace Go.Vsi
def plainB (x : tTNode) : Bool := decide (((4 <= x.1 /\ x.1 <= 9) \/ x.2.2.1 = 0) /\ (x.1 = 4 \/ x.2.2.2.1 = 0) /\ (x.1 = 1 \/ x.2.1 = 0) /\ (x.1 = 2 \/ (x.2.2.2.2.1 = 0 /\ x.2.2.2.2.2.1.length = 0)))
theorem plain_q3 {x : tTNode} {b : Bool} (R : Nat -> Bool -> Prop) (S : Nat -> tTNode -> Prop) :
  Ev (fun n => Z2.q3 n x b (R n) (S n)) ↔ if b = true then Ev (fun n => R n false) else Ev (fun n => S n x) := by
 refine Ev.suc.trans ?_
 simp only [Z2.q3, Z2.q3.b, Ev.iteI, Ev.s1 R, Ev.s1 S]
theorem plain_q2 {x : tTNode} {b : Bool} (hb : b = true ↔ (4 <= x.1 /\ x.1 <= 9)) (R : Nat -> Bool -> Prop) :
  Ev (fun n => Z2.q2 n x b (R n)) ↔ Ev (fun n => R n (plainB x)) := by
 refine Ev.suc.trans ?_
 have hb' : b = false ↔ ¬ (4 <= x.1 /\ x.1 <= 9) := by rw [<- hb]; simp
 simp only [Z2.q2, Z2.q2.b, Z2.j0, plain_q3, Ev.iteI, Ev.s1 R, Bool.not_eq_true', Bool.not_eq_false', decide_eq_true_eq, decide_eq_false_iff_not, Bool.false_eq_true, if_false, if_true, hb']
 (repeat' split) <;> first
  | (refine ev_arg ?_; symm; rw [plainB, decide_eq_false_iff_not]; omega)
  | (refine ev_arg ?_; symm; rw [plainB, decide_eq_true_eq]; omega)
  | (refine ev_arg ?_; rw [plainB, decide_eq_decide]; omega)
theorem plain_ev {x : tTNode} (R : Nat -> Bool -> Prop) : Ev (fun n => Z2.c n x (R n)) ↔ Ev (fun n => R n (plainB x)) := by
 refine Ev.suc.trans ?_
 simp only [Z2.c, Z2.w, Ev.iteI, decide_eq_true_eq, ge_iff_le]
 split
 ·rename_i h; rw [plain_q2 (by rw [decide_eq_true_eq]; omega) (fun n => R (n + 1)), Ev.s1 R]
 ·rename_i h; rw [plain_q2 (by simp; omega) (fun n => R (n + 1)), Ev.s1 R]
def kidsIn (i : Int) (ks : List Int) : Bool := ks.all fun k => decide (0 <= k /\ k <= i - 1)
theorem kidsIn_cons {i y : Int} {ys : List Int} : kidsIn i (y :: ys) = true ↔ (0 <= y /\ y <= i - 1) /\ kidsIn i ys = true := by
 rw [kidsIn, kidsIn, List.all_cons, Bool.and_eq_true, decide_eq_true_eq]
def kindB (d : List tDecl) (x : tTNode) : Bool := decide ((x.1 = 1 /\ x.2.2.2.2.2.2.length = 0 /\ 0 <= x.2.1 /\ x.2.1 <= (d.length : Int) - 1) \/ (x.1 = 2 /\ x.2.2.2.2.2.2.length = 0 /\ bitsOk x.2.2.2.2.1 x.2.2.2.2.2.1 = true) \/ (x.1 = 3 /\ 2 <= x.2.2.2.2.2.2.length) \/ (4 <= x.1 /\ x.1 <= 9 /\ x.2.2.2.2.2.2.length = 1))
theorem noBits_ev {a : Int} {l : List Int} (R : Nat -> Bool -> Prop) : Ev (fun n => Z57.c n a l (R n)) ↔ Ev (fun n => R n (decide (a = 0 /\ l.length = 0))) := by
 refine Ev.suc.trans ?_
 simp only [Z57.c, Z57.w, Ev.iteI, decide_eq_true_eq, Ev.s1 R]
 split
 ·refine ev_arg ?_; rw [decide_eq_decide]; omega
 ·refine ev_arg ?_; symm; rw [decide_eq_false_iff_not]; omega
theorem l3One_ev {a : Int} (R : Nat -> Bool -> Prop) : Ev (fun n => Z58.c n a (R n)) ↔ Ev (fun n => R n (decide (4 <= a /\ a <= 9))) := by
 refine Ev.suc.trans ?_
 simp only [Z58.c, Z58.w, l1In_ev, Ev.s1 R]
theorem form_lp {d : List tDecl} {i a b c e f : Int} {w ks : List Int} (hl : ks.length <= 1099511627776) (hi0 : 0 <= i) (hi : i <= 1048576) : ∀ (ys : List Int) (x : Int), ks.drop x.toNat = ys -> 0 <= x ->
  ∀ (Kx : Nat -> List tDecl -> Int -> Int -> Int -> Int -> Int -> List Int -> List Int -> Prop) (Kr : Nat -> Bool -> Prop),
  (Ev (fun n => Z56.l2 n d i a b c e f w ks x (Kx n) (Kr n)) ↔ if kidsIn i ys = true then Ev (fun n => Kx n d a b c e f w ks) else Ev (fun n => Kr n false))
 | [], x, h, h0, Kx, Kr => by
  have := drop_nil h h0
  refine Ev.suc.trans ?_
  simp (disch := omega) only [Z56.l2, Z56.l2.b, if_neg, decide_eq_true_eq, Ev.s8 Kx, kidsIn, List.all_nil, if_true]
 | y :: ys, x, h, h0, Kx, Kr => by
  obtain ⟨e1, e2, e3⟩ := drop_cons h h0
  refine Ev.suc.trans ?_
  simp (disch := omega) only [Z56.l2, Z56.l2.b, if_pos, decide_eq_true_eq, decide_eq_false_iff_not, Bool.not_eq_true', grd_dec2, e2, wrap64, l1In_ev, Ev.iteI, Ev.s1 Kr]
  rw [form_lp hl hi0 hi ys (x + 1) e3 (by omega), Ev.s1 Kr, Ev.s8 Kx]
  simp only [kidsIn_cons]
  by_cases h1 : 0 <= y /\ y <= i - 1
  ·rw [if_neg (fun h => h h1)]
   simp only [h1, true_and, and_self]
  ·rw [if_pos h1, if_neg (fun h => h1 h.1)]
theorem form_q7 {d : List tDecl} {g : Bool} {a b c e f : Int} {w ks : List Int} (R : Nat -> Bool -> Prop) (S : Nat -> List tDecl -> Int -> Int -> Int -> Int -> Int -> List Int -> List Int -> Prop) :
  Ev (fun n => Z56.q7 n d g a b c e f w ks (R n) (S n)) ↔ if g = true then Ev (fun n => R n false) else Ev (fun n => S n d a b c e f w ks) := by
 refine Ev.suc.trans ?_
 simp only [Z56.q7, Z56.q7.b, Ev.iteI, Ev.s1 R, Ev.s8 S]
theorem form_q8 {d : List tDecl} {a b c e f : Int} {w ks : List Int} (hd : d.length <= 1099511627776) (hw : Wd w) (R : Nat -> Bool -> Prop) :
  Ev (fun n => Z56.q8 n d a b c e f w ks (R n)) ↔ Ev (fun n => R n (kindB d (a, b, c, e, f, w, ks))) := by
 refine Ev.suc.trans ?_
 simp (disch := first | assumption | omega) only [Z56.q8, Z56.q8.b, Ev.iteI, decide_eq_true_eq, l1In_ev, l3One_ev, specOk_ev, wrap64, Ev.s1 R]
 have key : ∀ (b' : Bool), (b' = true ↔ kindB d (a, b, c, e, f, w, ks) = true) -> ((Ev fun n => R n b') ↔ Ev fun n => R n (kindB d (a, b, c, e, f, w, ks))) := fun b' h => by
  rw [Bool.eq_iff_iff.2 h]
 simp only [kindB, decide_eq_true_eq] at key
 (repeat' split) <;> refine key _ ?_ <;> first
  | (simp only [decide_eq_true_eq, Bool.false_eq_true, false_iff]; omega)
  | (simp only [decide_eq_true_eq, Bool.false_eq_true, false_iff]; constructor <;> intro h <;> simp_all <;> omega)
  | (simp_all; done) | (simp_all; omega)
theorem form_ev {d : List tDecl} {i a b c e f : Int} {w ks : List Int} (hd : d.length <= 1099511627776) (hw : Wd w) (hl : ks.length <= 1099511627776) (hi0 : 0 <= i) (hi : i <= 1048576) (R : Nat -> Bool -> Prop) :
  Ev (fun n => Z56.c n d a b c e f w ks i (R n)) ↔ Ev (fun n => R n (kidsIn i ks && plainB (a, b, c, e, f, w, ks) && kindB d (a, b, c, e, f, w, ks))) := by
 refine Ev.suc.trans ?_
 simp only [Z56.c, Z56.w]
 rw [form_lp hl hi0 hi ks 0 rfl (by omega)]
 by_cases hk : kidsIn i ks = true
 ·rw [if_pos hk, hk, Bool.true_and]
  simp only [Ev.iteI, Bool.not_eq_true', Bool.not_eq_false', decide_eq_true_eq, decide_eq_false_iff_not, noBits_ev, l3One_ev, form_q7, form_q8 hd hw, Ev.s1 R, Bool.false_eq_true, if_false, if_true]
  have T : plainB (a, b, c, e, f, w, ks) = true -> ((Ev fun n => R n (kindB d (a, b, c, e, f, w, ks))) ↔ Ev fun n => R n (plainB (a, b, c, e, f, w, ks) && kindB d (a, b, c, e, f, w, ks))) := fun h => by rw [h, Bool.true_and]
  have F : plainB (a, b, c, e, f, w, ks) = false -> ((Ev fun n => R n false) ↔ Ev fun n => R n (plainB (a, b, c, e, f, w, ks) && kindB d (a, b, c, e, f, w, ks))) := fun h => by rw [h, Bool.false_and]
  simp only [plainB, decide_eq_true_eq, decide_eq_false_iff_not] at T F
  (repeat' split) <;> first
   | (refine T ?_; omega)
   | (refine F ?_; omega)
 ·rw [if_neg hk, show kidsIn i ks = false from by simpa using hk, Bool.false_and, Bool.false_and, Ev.s1 R]
end Go.Vsi
end

section
set_option linter.unusedVariables false
set_option linter.unusedSimpArgs false
set_option synthInstance.maxSize 4096
namespace Go.Vsi
def WOk (l : List Int) : Prop := ∀ w ∈ l, 1 <= w /\ w <= 4096
theorem WOk.cons {y : Int} {r : List Int} (h : WOk (y :: r)) : (1 <= y /\ y <= 4096) /\ WOk r := ⟨h y List.mem_cons_self, fun w hw => h w (List.mem_cons_of_mem _ hw)⟩
def capSum (s : Int) : List Int -> Int
 | [] => s
 | y :: r => capSum (if s + y < 8192 then s + y else 8192) r
theorem sum_ge : ∀ {l : List Int}, WOk l -> (l.length : Int) <= l.sum
 | [], _ => by simp
 | y :: r, h => by
  have := sum_ge h.cons.2
  have := h.cons.1
  rw [List.sum_cons, List.length_cons]; omega
theorem capSum_big : ∀ {r : List Int}, WOk r -> capSum 8192 r = 8192
 | [], _ => rfl
 | y :: r, h => by
  have := h.cons.1
  rw [capSum, if_neg (by omega), capSum_big h.cons.2]
theorem capSum_eq : ∀ {l : List Int} {s : Int}, 0 <= s -> s <= 8192 -> WOk l -> capSum s l = if s + l.sum < 8192 then s + l.sum else 8192
 | [], s, h0, h1, hw => by
  rw [capSum, List.sum_nil]; split <;> omega
 | y :: r, s, h0, h1, hw => by
  have hy := hw.cons.1
  have hr := hw.cons.2
  have hs := sum_ge hr
  rw [capSum, List.sum_cons]
  by_cases h : s + y < 8192
  ·rw [if_pos h, capSum_eq (by omega) (by omega) hr]
   simp only [Int.add_assoc]
  ·rw [if_neg h, capSum_big hr, if_neg (by omega)]
def acc (w : Int) : Option Int := if 1 <= w /\ w <= 4096 then some w else none
def specW (d : List tDecl) (x : tTNode) (s : Int) : Int :=
 if x.1 = 1 then (rd d x.2.1.toNat).2
 else if x.1 = 2 then x.2.2.2.2.1
 else if x.1 = 4 then (if x.2.2.2.1 < 0 \/ x.2.2.1 < x.2.2.2.1 \/ x.2.2.1 >= s then -1 else x.2.2.1 - x.2.2.2.1 + 1)
 else if x.1 = 5 \/ x.1 = 6 then (if 0 <= x.2.2.1 /\ x.2.2.1 <= 4096 then s + x.2.2.1 else -1)
 else if x.1 = 7 \/ x.1 = 8 then (if 0 <= x.2.2.1 /\ x.2.2.1 <= 4096 then s else -1)
 else if x.1 = 9 then (if 1 <= x.2.2.1 /\ x.2.2.1 <= 4096 then s * x.2.2.1 else -1)
 else s
theorem node_one {d : List tDecl} {x : tTNode} {w : Int} (h1 : 4 <= x.1) (h2 : x.1 <= 9) : nodeW d x [w] = specW d x w := by
 have e : rd [w] 0 = w := rfl
 have e1 : [w].length = 1 := rfl
 rw [nodeW, e, e1, if_neg (by omega), if_neg (by omega), if_neg (by omega), if_neg (by omega), specW, if_neg (c := x.1 = 1) (by omega), if_neg (c := x.1 = 2) (by omega)]
 have h : x.1 = 4 \/ x.1 = 5 \/ x.1 = 6 \/ x.1 = 7 \/ x.1 = 8 \/ x.1 = 9 := by omega
 rcases h with h | h | h | h | h | h
 ·rw [if_pos (c := x.1 = 4) h]
  by_cases c : 0 <= x.2.2.2.1 /\ x.2.2.2.1 <= x.2.2.1 /\ x.2.2.1 < w
  ·rw [if_pos ⟨h, c⟩, if_neg (by omega)]
  ·rw [if_neg (fun hh => c hh.2), if_neg (by omega), if_neg (by omega), if_neg (by omega), if_pos (by omega)]
 all_goals
  rw [if_neg (c := x.1 = 4) (by omega), if_neg (by omega)]
 ·rw [if_pos (c := x.1 = 5 \/ x.1 = 6) (by omega)]
  by_cases c : 0 <= x.2.2.1 /\ x.2.2.1 <= 4096
  ·rw [if_pos ⟨Or.inl h, c⟩, if_pos c]
  ·rw [if_neg (fun hh => c hh.2), if_neg (by omega), if_neg (by omega), if_neg c]
 ·rw [if_pos (c := x.1 = 5 \/ x.1 = 6) (by omega)]
  by_cases c : 0 <= x.2.2.1 /\ x.2.2.1 <= 4096
  ·rw [if_pos ⟨Or.inr h, c⟩, if_pos c]
  ·rw [if_neg (fun hh => c hh.2), if_neg (by omega), if_neg (by omega), if_neg c]
 ·rw [if_neg (c := x.1 = 5 \/ x.1 = 6) (by omega), if_neg (by omega), if_pos (c := x.1 = 7 \/ x.1 = 8) (by omega)]
  by_cases c : 0 <= x.2.2.1 /\ x.2.2.1 <= 4096
  ·rw [if_pos ⟨Or.inl h, c⟩, if_pos c]
  ·rw [if_neg (fun hh => c hh.2), if_neg (by omega), if_neg c]
 ·rw [if_neg (c := x.1 = 5 \/ x.1 = 6) (by omega), if_neg (by omega), if_pos (c := x.1 = 7 \/ x.1 = 8) (by omega)]
  by_cases c : 0 <= x.2.2.1 /\ x.2.2.1 <= 4096
  ·rw [if_pos ⟨Or.inr h, c⟩, if_pos c]
  ·rw [if_neg (fun hh => c hh.2), if_neg (by omega), if_neg c]
 ·rw [if_neg (c := x.1 = 5 \/ x.1 = 6) (by omega), if_neg (by omega), if_neg (by omega), if_neg (c := x.1 = 7 \/ x.1 = 8) (by omega), if_pos (c := x.1 = 9) h]
  by_cases c : 1 <= x.2.2.1 /\ x.2.2.1 <= 4096
  ·rw [if_pos ⟨h, c⟩, if_pos c]
  ·rw [if_neg (fun hh => c hh.2), if_neg c]
theorem step_eq {d : List tDecl} {x : tTNode} {kw : List Int} (hw : WOk kw) (hl : kw.length = x.2.2.2.2.2.2.length) :
  (if x.2.2.2.2.2.2.length <= 4096 then acc (nodeW d x kw) else none) = if kindB d x = true then acc (specW d x (capSum 0 kw)) else none := by
 rw [<- hl]
 rw [capSum_eq (by omega) (by omega) hw, Int.zero_add]
 have hs := sum_ge hw
 by_cases hk : kindB d x = true
 ·rw [if_pos hk]
  rw [kindB, decide_eq_true_eq, <- hl] at hk
  rcases hk with ⟨h1, h2, h3, h4⟩ | ⟨h1, h2, h3⟩ | ⟨h1, h2⟩ | ⟨h1, h2, h3⟩
  ·rw [if_pos (by omega), nodeW, if_pos ⟨h1, h2, h3, h4⟩, specW, if_pos h1]
  ·rw [if_pos (by omega), nodeW, if_neg (by omega), if_pos ⟨h1, h2, h3⟩, specW, if_neg (by omega), if_pos h1]
  ·have hn : nodeW d x kw = kw.sum := by rw [nodeW, if_neg (by omega), if_neg (by omega), if_pos (by omega)]
   have hq : ∀ s, specW d x s = s := fun s => by rw [specW, if_neg (by omega), if_neg (by omega), if_neg (by omega), if_neg (by omega), if_neg (by omega), if_neg (by omega)]
   rw [hn, hq]
   unfold acc
   (repeat' split) <;> first | rfl | (exfalso; omega)
  ·rw [if_pos (by omega)]
   match kw, h3, hw with
   | [w], _, hw =>
    have h := hw w List.mem_cons_self
    have hs : (if [w].sum < 8192 then [w].sum else 8192) = w := by
     simp only [List.sum_cons, List.sum_nil, Int.add_zero]; rw [if_pos (by omega)]
    rw [hs]
    have hn := node_one (d := d) (x := x) (w := w) h1 h2
    rw [hn]
 ·rw [if_neg hk]
  rw [kindB, decide_eq_true_eq, <- hl] at hk
  have : nodeW d x kw = -1 := by
   rw [nodeW, if_neg (by omega), if_neg (by rintro ⟨h1, h2, h3⟩; exact hk (Or.inr (Or.inl ⟨h1, h2, h3⟩))), if_neg (by omega)]
   by_cases h1 : kw.length ≠ 1
   ·rw [if_pos h1]
   ·rw [if_neg h1, if_neg (by omega), if_neg (by omega), if_neg (by omega), if_neg (by omega)]
  rw [this]
  split <;> rfl
def stepW (d : List tDecl) (x : tTNode) (wide : List Int) : Option Int :=
 if kidsIn wide.length x.2.2.2.2.2.2 = true /\ plainB x = true /\ kindB d x = true then acc (specW d x (capSum 0 (x.2.2.2.2.2.2.map fun k => rd wide k.toNat))) else none
def setAll (u : List Bool) : List Int -> List Bool
 | [] => u
 | k :: r => setAll (u.set k.toNat true) r
theorem setAll_len : ∀ {ks : List Int} {u : List Bool}, (setAll u ks).length = u.length
 | [], u => rfl
 | k :: r, u => by rw [setAll, setAll_len, List.length_set]
def widthsGo (d : List tDecl) : List tTNode -> List Int -> List Bool -> Option (List Int × List Bool)
 | [], wide, used => some (wide, used)
 | x :: r, wide, used => match stepW d x wide with
  | some w => widthsGo d r (wide ++ [w]) (setAll used x.2.2.2.2.2.2)
  | none => none
theorem rd_mem {l : List Int} {k : Int} (h0 : 0 <= k) (h1 : k < (l.length : Int)) : rd l k.toNat ∈ l := by
 rw [rd, List.getD_eq_getElem?_getD, List.getElem?_eq_getElem (by omega)]
 exact List.getElem_mem _
theorem rd_app {α : Type} [Inhabited α] {a b : List α} {k : Nat} (h : k < a.length) : rd (a ++ b) k = rd a k := by
 rw [rd, rd, List.getD_eq_getElem?_getD, List.getD_eq_getElem?_getD, List.getElem?_append_left h]
theorem kids_wok {wide ks : List Int} (hw : WOk wide) (hk : kidsIn wide.length ks = true) : WOk (ks.map fun k => rd wide k.toNat) := by
 intro w hw'
 obtain ⟨k, hk', rfl⟩ := List.mem_map.1 hw'
 rw [kidsIn, List.all_eq_true] at hk
 have := hk k hk'
 rw [decide_eq_true_eq] at this
 exact hw _ (rd_mem this.1 (by omega))
theorem acc_some {w v : Int} (h : acc w = some v) : v = w /\ 1 <= w /\ w <= 4096 := by
 unfold acc at h
 split at h
 ·rename_i hh; cases h; exact ⟨rfl, hh⟩
 ·cases h
theorem stepW_ok {d : List tDecl} {x : tTNode} {wide : List Int} {w : Int} (h : stepW d x wide = some w) : 1 <= w /\ w <= 4096 := by
 unfold stepW at h
 split at h
 ·obtain ⟨rfl, h1⟩ := acc_some h; exact h1
 ·cases h
theorem WOk.app {wide : List Int} {w : Int} (h : WOk wide) (hw : 1 <= w /\ w <= 4096) : WOk (wide ++ [w]) := by
 intro v hv
 rcases List.mem_append.1 hv with hv | hv
 ·exact h v hv
 ·rw [List.mem_singleton] at hv; subst hv; exact hw
theorem widthsGo_ok {d : List tDecl} : ∀ {ys : List tTNode} {wide : List Int} {used : List Bool} {r : List Int × List Bool}, WOk wide -> widthsGo d ys wide used = some r -> WOk r.1 /\ r.1.length = wide.length + ys.length /\ r.2.length = used.length
 | [], wide, used, r, hw, h => by
  rw [widthsGo] at h; cases h; exact ⟨hw, rfl, rfl⟩
 | x :: ys, wide, used, r, hw, h => by
  rw [widthsGo] at h
  cases hs : stepW d x wide with
  | none => rw [hs] at h; cases h
  | some w =>
   rw [hs] at h
   obtain ⟨h1, h2, h3⟩ := widthsGo_ok (hw.app (stepW_ok hs)) h
   refine ⟨h1, ?_, ?_⟩
   ·rw [h2]; simp; omega
   ·rw [h3, setAll_len]
theorem kids_lp {d : List tDecl} {m i a b : Int} {x : tTNode} {ks out : List Int} {nodes : List tTNode} (hl : ks.length <= 4096) (hi0 : 0 <= i) (hi : i <= (out.length : Int)) (hi' : i <= 1048576) : ∀ (ys : List Int) (j : Int) (used : List Bool) (kw : List Int), ks.drop j.toNat = ys -> 0 <= j -> i <= (used.length : Int) -> kw.length = ks.length ->
  ∀ (Kx : Nat -> List tDecl -> Int -> Int -> tTNode -> Int -> Int -> List Int -> List Bool -> List Int -> List tTNode -> Prop) (Kr : Nat -> Bool -> List Int -> Prop),
  (Ev (fun n => Z15.l13 n d m i x a b ks ks.length out nodes j used kw (Kx n) (Kr n)) ↔
   if kidsIn i ys = true then Ev (fun n => Kx n d m i x a b out (setAll used ys) (kw.take j.toNat ++ ys.map fun k => rd out k.toNat) nodes) else Ev (fun n => Kr n false []))
 | [], j, used, kw, h, h0, hu, hkw, Kx, Kr => by
  have := drop_nil h h0
  refine Ev.suc.trans ?_
  simp (disch := omega) only [Z15.l13, Z15.l13.b, if_neg, decide_eq_true_eq, Ev.s10 Kx, kidsIn, List.all_nil, if_true, setAll, List.map_nil, List.append_nil]
  rw [List.take_of_length_le (by omega)]
 | y :: ys, j, used, kw, h, h0, hu, hkw, Kx, Kr => by
  obtain ⟨e1, e2, e3⟩ := drop_cons h h0
  refine Ev.suc.trans ?_
  simp (disch := omega) only [Z15.l13, Z15.l13.b, if_pos, decide_eq_true_eq, decide_eq_false_iff_not, Bool.not_eq_true', grd_dec2, e2, wrap64, inside_ev, Ev.iteI, Ev.s2 Kr]
  by_cases h1 : 0 <= y /\ y <= i - 1
  ·rw [if_neg (fun h => h h1)]
   rw [kids_lp hl hi0 hi hi' ys (j + 1) _ _ e3 (by omega) (by simpa using hu) (by simpa using hkw), Ev.s10 Kx, Ev.s2 Kr, take_set (by omega) (by omega)]
   simp only [kidsIn_cons, h1, and_self, true_and, setAll, List.map_cons, List.append_assoc, List.singleton_append]
  ·rw [if_pos h1, if_neg]
   rw [kidsIn_cons]
   exact fun h => h1 h.1
theorem widths_lp {d : List tDecl} {t : List tTNode} (hd : d.length <= 1099511627776) (ht : t.length <= 400) : ∀ (ys : List tTNode) (wide z : List Int) (used : List Bool), t.drop wide.length = ys -> (wide ++ z).length = t.length -> used.length = t.length -> WOk wide ->
  ∀ (Kx : Nat -> Int -> List Int -> List Bool -> Prop) (Kr : Nat -> Bool -> List Int -> Prop),
  (Ev (fun n => Z15.l6 n d t.length t.length wide.length (wide ++ z) used t (Kx n) (Kr n)) ↔ match widthsGo d ys wide used with
   | some r => Ev (fun n => Kx n t.length r.1 r.2)
   | none => Ev (fun n => Kr n false []))
 | [], wide, z, used, h, hz, hu, hw, Kx, Kr => by
  have hle := List.drop_eq_nil_iff.1 h
  have hz0 : z = [] := by
   rw [List.length_append] at hz
   exact List.eq_nil_of_length_eq_zero (by omega)
  subst hz0
  refine Ev.suc.trans ?_
  simp (disch := omega) only [Z15.l6, Z15.l6.b, if_neg, decide_eq_true_eq, Ev.s3 Kx, widthsGo, List.append_nil]
 | x :: ys, wide, z, used, h, hz, hu, hw, Kx, Kr => by
  have h' : t.drop (wide.length : Int).toNat = x :: ys := h
  obtain ⟨e1, e2, e3⟩ := drop_cons h' (by omega)
  have e2' : rd t wide.length = x := e2
  rw [List.length_append] at hz
  refine Ev.suc.trans ?_
  simp (disch := omega) only [Z15.l6, Z15.l6.b, if_pos, decide_eq_true_eq, Ev.iteI, grd_dec2, Int.toNat_natCast, e2', Ev.s2 Kr]
  rw [widthsGo]
  have hse := step_eq (d := d) (x := x) (kw := x.2.2.2.2.2.2.map fun k => rd wide k.toNat)
  by_cases hk : x.2.2.2.2.2.2.length <= 4096
  ·rw [if_neg (by omega)]
   simp (disch := omega) only [grd_dec2, decide_true, Bool.and_true]
   rw [kids_lp hk (by omega) (by rw [List.length_append]; omega) (by omega) x.2.2.2.2.2.2 0 _ _ rfl (by omega) (by omega) (by simp), Ev.s2 Kr]
   by_cases hin : kidsIn wide.length x.2.2.2.2.2.2 = true
   ·rw [if_pos hin]
    have hwk := kids_wok hw hin
    have hmap : (x.2.2.2.2.2.2.map fun k => rd (wide ++ z) k.toNat) = x.2.2.2.2.2.2.map fun k => rd wide k.toNat := by
     apply List.map_congr_left
     intro k hk'
     rw [kidsIn, List.all_eq_true] at hin
     have := hin k hk'
     rw [decide_eq_true_eq] at this
     exact rd_app (by omega)
    have hse := hse hwk (by simp)
    rw [if_pos hk] at hse
    simp only [Int.toNat_zero, List.take_zero, List.nil_append, hmap]
    simp (disch := first | assumption | (simp only [List.length_map, List.length_append, List.length_set]; omega) | omega) only [width_ev hd (by simpa using hk) (fun w hw' => ⟨by have := hwk w hw'; omega, (hwk w hw').2⟩), plain_ev, Ev.iteI, Bool.not_eq_false', grd_dec2, rd_set, Int.toNat_natCast, inside_ev, Bool.not_eq_true', decide_eq_false_iff_not, wrap64, Ev.s2 Kr]
    by_cases hp : plainB x = true
    ·rw [if_pos hp]
     have hst : stepW d x wide = acc (nodeW d x (x.2.2.2.2.2.2.map fun k => rd wide k.toNat)) := by
      rw [hse, stepW]
      by_cases hkb : kindB d x = true
      ·rw [if_pos ⟨hin, hp, hkb⟩, if_pos hkb]
      ·rw [if_neg (fun h => hkb h.2.2), if_neg hkb]
     by_cases hacc : 1 <= nodeW d x (x.2.2.2.2.2.2.map fun k => rd wide k.toNat) /\ nodeW d x (x.2.2.2.2.2.2.map fun k => rd wide k.toNat) <= 4096
     ·rw [if_neg (fun h => h hacc)]
      rw [hst, acc, if_pos hacc]
      simp only []
      match z, hz with
      | [], hz => simp at hz; omega
      | v :: z, hz =>
       have es : (wide ++ v :: z).set wide.length (nodeW d x (x.2.2.2.2.2.2.map fun k => rd wide k.toNat)) = (wide ++ [nodeW d x (x.2.2.2.2.2.2.map fun k => rd wide k.toNat)]) ++ z := by
        rw [List.set_append_right _ _ (Nat.le_refl _), Nat.sub_self, List.set_cons_zero, List.append_assoc]; rfl
       rw [es]
       have el : ((wide.length : Int) + 1) = ((wide ++ [nodeW d x (x.2.2.2.2.2.2.map fun k => rd wide k.toNat)]).length : Int) := by simp
       rw [el, widths_lp hd ht ys _ z _ (by rw [<- e3, List.length_append]; rfl) (by simp at hz ⊢; omega) (by rw [setAll_len]; exact hu) (hw.app hacc)]
       cases widthsGo d ys (wide ++ [nodeW d x (x.2.2.2.2.2.2.map fun k => rd wide k.toNat)]) (setAll used x.2.2.2.2.2.2) with
       | none => exact Ev.s2 Kr _ _
       | some r => exact Ev.s3 Kx _ _ _
     ·rw [if_pos hacc, hst, acc, if_neg hacc]
    ·rw [if_neg hp, stepW, if_neg (fun h => hp h.2.1)]
   ·rw [if_neg hin, stepW, if_neg (fun h => hin h.1)]
  ·rw [if_pos (by omega)]
   have : stepW d x wide = none := by
    unfold stepW
    split
    ·rename_i hh
     have hse := hse (kids_wok hw hh.1) (by simp)
     rw [if_neg hk, if_pos hh.2.2] at hse
     exact hse.symm
    ·rfl
   rw [this]
end Go.Vsi
end

section
set_option linter.unusedVariables false
set_option linter.unusedSimpArgs false
set_option synthInstance.maxSize 4096
namespace Go.Vsi
theorem Z43_lp {l : List Bool} {v : Bool} (hl : l.length <= 1099511627776) : ∀ (ys : List Bool) (x : Int), l.drop x.toNat = ys -> 0 <= x ->
  ∀ (Kx : Nat -> Prop) (Kr : Nat -> Int -> Prop),
  (Ev (fun n => Z43.l2 n l v l.length x (Kx n) (Kr n)) ↔ if firstIx (fun y => v == y) ys x < 0 then Ev Kx else Ev (fun n => Kr n (firstIx (fun y => v == y) ys x)))
 | [], x, h, h0, Kx, Kr => by
  have := drop_nil h h0
  rw [firstIx, if_pos (by decide)]
  refine Ev.suc.trans ?_
  simp (disch := omega) only [Z43.l2, Z43.l2.b, if_neg, decide_eq_true_eq, Ev.s0 Kx]
 | y :: ys, x, h, h0, Kx, Kr => by
  obtain ⟨e1, e2, e3⟩ := drop_cons h h0
  refine Ev.suc.trans ?_
  simp (disch := first | omega | omega) only [Z43.l2, Z43.l2.b, if_pos, decide_eq_true_eq, grd_dec2, e2, wrap64, Ev.s1 Kr, Ev.s0 Kx, Ev.iteI]
  rw [Z43_lp hl ys (x + 1) e3 (by omega), Ev.s0 Kx, Ev.s1 Kr]
  simp only [firstIx, decide_eq_true_eq]
  split
  ·rw [if_neg (by omega)]
  ·rfl
theorem Z43_ev {l : List Bool} {v : Bool} (hl : l.length <= 1099511627776) (R : Nat -> Int -> Prop) :
  Ev (fun n => Z43.c n l v (R n)) ↔ Ev (fun n => R n (firstIx (fun y => v == y) l 0)) := by
 refine Ev.suc.trans ?_
 simp only [Z43.c, Z43.w]
 rw [Z43_lp hl l 0 rfl (by omega), Ev.s1 R, Ev.s1 R]
 split
 ·rw [firstIx_neg (by omega) ‹_›]
 ·rfl
theorem Z41_ev {l : List Bool} {v : Bool} (hl : l.length <= 1099511627776) (R : Nat -> Bool -> Prop) :
  Ev (fun n => Z41.c n l v (R n)) ↔ Ev (fun n => R n (l.any fun y => v == y)) := by
 refine Ev.suc.trans ?_
 simp only [Z41.c, Z41.w]
 rw [Z43_ev hl, Ev.s1 R, firstIx_any (by omega)]
theorem any_false (l : List Bool) : (!(l.any fun y => false == y)) = l.all id := by
 induction l with
 | nil => rfl
 | cons a l ih => rw [List.any_cons, List.all_cons, Bool.not_or, ih]; cases a <;> rfl
def widthsI (d : List tDecl) (t : List tTNode) : List Int × Bool :=
 if 1 <= t.length /\ t.length <= 400 then (match widthsGo d t [] (List.replicate t.length false) with
  | some r => (r.1, (r.2.take (t.length - 1)).all id)
  | none => ([], false)) else ([], false)
theorem widthsI_ok {d : List tDecl} {t : List tTNode} (h : (widthsI d t).2 = true) : WOk (widthsI d t).1 /\ (widthsI d t).1.length = t.length /\ 1 <= t.length /\ t.length <= 400 := by
 unfold widthsI at h ⊢
 by_cases hl : 1 <= t.length /\ t.length <= 400
 ·rw [if_pos hl] at h ⊢
  cases hg : widthsGo d t [] (List.replicate t.length false) with
  | none => rw [hg] at h; cases h
  | some r =>
   rw [hg] at h
   obtain ⟨h1, h2, h3⟩ := widthsGo_ok (fun w hw => by cases hw) hg
   exact ⟨h1, by simpa using h2, hl⟩
 ·rw [if_neg hl] at h; cases h
theorem widths_ev {d : List tDecl} {t : List tTNode} (hd : d.length <= 1099511627776) (R : Nat -> List Int -> Bool -> Prop) :
  Ev (fun n => Z15.c n d t (R n)) ↔ Ev (fun n => R n (widthsI d t).1 (widthsI d t).2) := by
 refine Ev.suc.trans ?_
 simp only [Z15.c, Z15.w, Ev.iteI, decide_eq_true_eq, decide_eq_false_iff_not, Ev.s2 R, widthsI]
 by_cases hl : 1 <= t.length /\ t.length <= 400
 ·rw [if_pos (by omega), if_neg (by omega), if_pos hl]
  have lp := fun (Kx : Nat -> Int -> List Int -> List Bool -> Prop) (Kr : Nat -> Bool -> List Int -> Prop) => widths_lp hd hl.2 t [] (List.replicate t.length 0) (List.replicate t.length false) rfl (by simp) (by simp) (fun w hw => by cases hw) Kx Kr
  simp only [List.length_nil, List.nil_append, Int.natCast_zero] at lp
  simp (disch := omega) only [Z15.j1, Z15.j0, grd_dec2, decide_true, Bool.and_true, and_self, Int.toNat_natCast]
  rw [lp]
  cases hg : widthsGo d t [] (List.replicate t.length false) with
  | none => exact Ev.s2 R _ _
  | some r =>
   obtain ⟨h1, h2, h3⟩ := widthsGo_ok (fun w hw => by cases hw) hg
   rw [List.length_replicate] at h3
   simp (disch := omega) only [wrap64, grd_dec3]
   rw [Z41_ev (by simp; omega), Ev.s2 R]
   rw [any_false, List.drop_zero, show ((t.length : Int) - 1).toNat = t.length - 1 from by omega]
 ·rw [if_neg hl]
  split
  ·rw [if_pos (by omega)]
  ·rfl
def widthI (d : List tDecl) (t : List tTNode) : Int := if (widthsI d t).2 = true then rd (widthsI d t).1 (t.length - 1) else -1
theorem widthI_ev {d : List tDecl} {t : List tTNode} (hd : d.length <= 1099511627776) (R : Nat -> Int -> Prop) :
  Ev (fun n => Z14.c n d t (R n)) ↔ Ev (fun n => R n (widthI d t)) := by
 refine Ev.suc.trans ?_
 simp only [Z14.c, Z14.w, widths_ev hd, Ev.iteI, Bool.not_eq_true', Ev.s1 R, widthI]
 by_cases h : (widthsI d t).2 = true
 ·obtain ⟨h1, h2, h3, h4⟩ := widthsI_ok h
  rw [if_pos h, if_neg (by simp [h])]
  simp (disch := omega) only [wrap64, grd_dec2, Ev.s1 R]
  rw [show (((widthsI d t).1.length : Int) - 1).toNat = t.length - 1 from by omega]
 ·rw [if_neg h, if_pos (by simpa using h)]
def widthOf (d : List tDecl) (t : List tTNode) : Int := if declsOk d = true then widthI d t else -1
theorem widthOf_ev {d : List tDecl} {t : List tTNode} (hd : d.length <= 1099511627776) (R : Nat -> Int -> Prop) :
  Ev (fun n => Z5.c n d t (R n)) ↔ Ev (fun n => R n (widthOf d t)) := by
 refine Ev.suc.trans ?_
 simp only [Z5.c, Z5.w, declsOk_ev, Ev.iteI, Bool.not_eq_true', widthI_ev hd, Ev.s1 R, widthOf]
 by_cases h : declsOk d = true
 ·rw [if_pos h, if_neg (by simp [h])]
 ·rw [if_neg h, if_pos (by simpa using h)]
theorem wideS_lp {d : List tDecl} {wide : List Int} {a b c e f : Int} {w ks : List Int} (hl : ks.length <= 1099511627776) (hw : WOk wide) : ∀ (ys : List Int) (s x : Int), ks.drop x.toNat = ys -> 0 <= x -> 0 <= s -> s <= 8192 -> kidsIn wide.length ys = true ->
  ∀ (Kx : Nat -> List tDecl -> Int -> Int -> Int -> Int -> Int -> Int -> List Int -> List Int -> Prop),
  (Ev (fun n => Z62.l3 n d wide a b c e f w ks s x (Kx n)) ↔ Ev (fun n => Kx n d (capSum s (ys.map fun k => rd wide k.toNat)) a b c e f w ks))
 | [], s, x, h, h0, hs, hs', hk, Kx => by
  have := drop_nil h h0
  refine Ev.suc.trans ?_
  simp (disch := omega) only [Z62.l3, Z62.l3.b, if_neg, decide_eq_true_eq, Ev.s9 Kx, List.map_nil, capSum]
 | y :: ys, s, x, h, h0, hs, hs', hk, Kx => by
  obtain ⟨e1, e2, e3⟩ := drop_cons h h0
  rw [kidsIn_cons] at hk
  have hy := hw _ (rd_mem hk.1.1 (show y < (wide.length : Int) by omega))
  refine Ev.suc.trans ?_
  simp (disch := omega) only [Z62.l3, Z62.l3.b, if_pos, decide_eq_true_eq, grd_dec2, e2, wrap64]
  rw [wideS_lp hl hw ys _ (x + 1) e3 (by omega) (by split <;> omega) (by split <;> omega) hk.2, Ev.s9 Kx, List.map_cons, capSum]
theorem wideS_ev {d : List tDecl} {wide : List Int} {a b c e f : Int} {w ks : List Int} (hd : d.length <= 1099511627776) (hl : ks.length <= 1099511627776) (hw : WOk wide) (hk : kidsIn wide.length ks = true) (hkb : kindB d (a, b, c, e, f, w, ks) = true) (R : Nat -> Int -> Prop) :
  Ev (fun n => Z62.c n d a b c e f w ks wide (R n)) ↔ Ev (fun n => R n (specW d (a, b, c, e, f, w, ks) (capSum 0 (ks.map fun k => rd wide k.toNat)))) := by
 refine Ev.suc.trans ?_
 simp only [Z62.c, Z62.w]
 rw [wideS_lp hl hw ks 0 0 rfl (by omega) (by omega) (by omega) hk]
 have hs : 0 <= capSum 0 (ks.map fun k => rd wide k.toNat) /\ capSum 0 (ks.map fun k => rd wide k.toNat) <= 8192 := by
  have hwk := kids_wok hw hk
  have := sum_ge hwk
  rw [capSum_eq (by omega) (by omega) hwk]
  split <;> omega
 generalize capSum 0 (ks.map fun k => rd wide k.toNat) = s at hs
 rw [kindB, decide_eq_true_eq] at hkb
 simp only [] at hkb
 simp only [Z62.j2, Z62.j3, Ev.iteI, decide_eq_true_eq, decide_eq_false_iff_not, Bool.not_eq_true', l1In_ev, Ev.s1 R, if_true]
 rw [specW]
 simp only []
 by_cases h1 : a = 1
 ·rw [if_pos h1, if_pos h1]
  simp (disch := omega) only [grd_dec2, Ev.s1 R]
 rw [if_neg h1, if_neg h1]
 by_cases h2 : a = 2
 ·rw [if_pos h2, if_pos h2]
 rw [if_neg h2, if_neg h2]
 by_cases h4 : a = 4
 ·rw [if_pos h4, if_pos h4]
  by_cases g1 : e < 0
  ·rw [if_neg (by omega), if_pos (Or.inl g1)]
  rw [if_pos g1]
  by_cases g2 : c < e
  ·rw [if_neg (by omega), if_pos (Or.inr (Or.inl g2))]
  rw [if_pos g2]
  by_cases g3 : c >= s
  ·rw [if_pos g3, if_pos (Or.inr (Or.inr g3))]
  rw [if_neg g3, if_neg (by omega), wrap64 (x := c - e) (by omega) (by omega), wrap64 (by omega) (by omega)]
 rw [if_neg h4, if_neg h4]
 have hm : 1 <= c /\ c <= 4096 -> IntKind.wrap .i64 (s * c) = s * c := fun h => by
  have := mulB hs.1 hs.2 (show 0 <= c by omega) h.2
  exact wrap64 (by omega) (by omega)
 have hp : 0 <= c /\ c <= 4096 -> IntKind.wrap .i64 (s + c) = s + c := fun h => wrap64 (by omega) (by omega)
 have key56 : (if ¬ (0 <= c /\ c <= 4096) then Ev fun n => R n (-1) else Ev fun n => R n (IntKind.wrap .i64 (s + c))) ↔ Ev fun n => R n (if 0 <= c /\ c <= 4096 then s + c else -1) := by
  by_cases g : 0 <= c /\ c <= 4096
  ·rw [if_neg (fun h => h g), if_pos g, hp g]
  ·rw [if_pos g, if_neg g]
 have key78 : (if ¬ (0 <= c /\ c <= 4096) then Ev fun n => R n (-1) else Ev fun n => R n s) ↔ Ev fun n => R n (if 0 <= c /\ c <= 4096 then s else -1) := by
  by_cases g : 0 <= c /\ c <= 4096
  ·rw [if_neg (fun h => h g), if_pos g]
  ·rw [if_pos g, if_neg g]
 have key9 : (if ¬ (1 <= c /\ c <= 4096) then Ev fun n => R n (-1) else Ev fun n => R n (IntKind.wrap .i64 (s * c))) ↔ Ev fun n => R n (if 1 <= c /\ c <= 4096 then s * c else -1) := by
  by_cases g : 1 <= c /\ c <= 4096
  ·rw [if_neg (fun h => h g), if_pos g, hm g]
  ·rw [if_pos g, if_neg g]
 by_cases h5 : a = 5
 ·rw [if_pos h5, if_pos (Or.inl h5)]; exact key56
 rw [if_neg h5]
 by_cases h6 : a = 6
 ·rw [if_pos h6, if_pos (Or.inr h6)]; exact key56
 rw [if_neg h6, if_neg (show ¬ (a = 5 \/ a = 6) by omega)]
 by_cases h7 : a = 7
 ·rw [if_pos h7, if_pos (Or.inl h7)]; exact key78
 rw [if_neg h7]
 by_cases h8 : a = 8
 ·rw [if_pos h8, if_pos (Or.inr h8)]; exact key78
 rw [if_neg h8, if_neg (show ¬ (a = 7 \/ a = 8) by omega)]
 by_cases h9 : a = 9
 ·rw [if_pos h9, if_pos h9]; exact key9
 rw [if_neg h9, if_neg h9]
theorem usedS_lp {d : List tDecl} {i : Int} {o wide : List Int} {t : List tTNode} {x : tTNode} (hi0 : 0 <= i) (hi : i < (t.length : Int)) (hx : rd t i.toNat = x) (hl : x.2.2.2.2.2.2.length <= 1099511627776) : ∀ (ys : List Int) (j : Int) (used : List Bool), x.2.2.2.2.2.2.drop j.toNat = ys -> 0 <= j -> used.length = t.length -> kidsIn i ys = true ->
  ∀ (Kx : Nat -> List tDecl -> Int -> List Int -> List Bool -> List Int -> List tTNode -> Prop),
  (Ev (fun n => Z63.l16 n d i o wide t j used (Kx n)) ↔ Ev (fun n => Kx n d i o (setAll used ys) wide t))
 | [], j, used, h, h0, hu, hk, Kx => by
  have := drop_nil h h0
  refine Ev.suc.trans ?_
  simp (disch := omega) only [Z63.l16, Z63.l16.b, grd_dec2, hx, if_neg, decide_eq_true_eq, Ev.s6 Kx, setAll]
 | y :: ys, j, used, h, h0, hu, hk, Kx => by
  obtain ⟨e1, e2, e3⟩ := drop_cons h h0
  rw [kidsIn_cons] at hk
  refine Ev.suc.trans ?_
  simp (disch := omega) only [Z63.l16, Z63.l16.b, grd_dec2, hx, if_pos, decide_eq_true_eq, e2, wrap64]
  rw [usedS_lp hi0 hi hx hl ys (j + 1) _ e3 (by omega) (by simpa using hu) hk.2, Ev.s6 Kx, setAll]
theorem widthsS_lp {d : List tDecl} {t : List tTNode} (hd : d.length <= 1099511627776) (ht : t.length <= 400) (hg : ∀ x : tTNode, x ∈ t -> Wd x.2.2.2.2.2.1 /\ x.2.2.2.2.2.2.length <= 1099511627776) : ∀ (ys : List tTNode) (wide : List Int) (used : List Bool), t.drop wide.length = ys -> (∀ x : tTNode, x ∈ ys -> Wd x.2.2.2.2.2.1 /\ x.2.2.2.2.2.2.length <= 1099511627776) -> used.length = t.length -> WOk wide ->
  ∀ (Kx : Nat -> List Int -> List Int -> List Bool -> Prop) (Kr : Nat -> List Int -> Prop),
  (Ev (fun n => Z63.l7 n d wide.length wide [] used t (Kx n) (Kr n)) ↔ match widthsGo d ys wide used with
   | some r => Ev (fun n => Kx n r.1 [] r.2)
   | none => Ev (fun n => Kr n []))
 | [], wide, used, h, hy, hu, hw, Kx, Kr => by
  have hle := List.drop_eq_nil_iff.1 h
  refine Ev.suc.trans ?_
  simp (disch := omega) only [Z63.l7, Z63.l7.b, if_neg, decide_eq_true_eq, Ev.s3 Kx, widthsGo]
 | x :: ys, wide, used, h, hy, hu, hw, Kx, Kr => by
  have h' : t.drop (wide.length : Int).toNat = x :: ys := h
  obtain ⟨e1, e2, e3⟩ := drop_cons h' (by omega)
  have e2' : rd t wide.length = x := e2
  have hx := hy x List.mem_cons_self
  refine Ev.suc.trans ?_
  simp (disch := first | exact hx.1 | exact hx.2 | omega) only [Z63.l7, Z63.l7.b, if_pos, decide_eq_true_eq, Ev.iteI, grd_dec2, Int.toNat_natCast, e2', Ev.s1 Kr, form_ev, Bool.not_eq_true']
  rw [widthsGo]
  by_cases hf : kidsIn wide.length x.2.2.2.2.2.2 = true /\ plainB x = true /\ kindB d x = true
  ·obtain ⟨f1, f2, f3⟩ := hf
   have e : (kidsIn (wide.length : Int) x.2.2.2.2.2.2 && plainB (x.1, x.2.1, x.2.2.1, x.2.2.2.1, x.2.2.2.2.1, x.2.2.2.2.2.1, x.2.2.2.2.2.2) && kindB d (x.1, x.2.1, x.2.2.1, x.2.2.2.1, x.2.2.2.2.1, x.2.2.2.2.2.1, x.2.2.2.2.2.2)) = true := by
    rw [f1, show plainB (x.1, x.2.1, x.2.2.1, x.2.2.2.1, x.2.2.2.2.1, x.2.2.2.2.2.1, x.2.2.2.2.2.2) = true from f2, show kindB d (x.1, x.2.1, x.2.2.1, x.2.2.2.1, x.2.2.2.2.1, x.2.2.2.2.2.1, x.2.2.2.2.2.2) = true from f3]; rfl
   rw [e, if_neg (by decide)]
   have hwi := fun (R : Nat -> Int -> Prop) => wideS_ev (wide := wide) hd hx.2 hw f1 f3 R
   simp (disch := omega) only [hwi, l1In_ev, Ev.iteI, Bool.not_eq_true', decide_eq_false_iff_not, Ev.s1 Kr, grd_dec]
   have hst : stepW d x wide = acc (specW d x (capSum 0 (x.2.2.2.2.2.2.map fun k => rd wide k.toNat))) := by
    rw [stepW, if_pos ⟨f1, f2, f3⟩]
   rw [hst]
   generalize hv : specW d x (capSum 0 (x.2.2.2.2.2.2.map fun k => rd wide k.toNat)) = v
   by_cases hacc : 1 <= v /\ v <= 4096
   ·rw [if_neg (fun h => h hacc), acc, if_pos hacc]
    simp only []
    simp (disch := (simp only [List.length_cons, List.length_nil]; omega)) only [grd_dec]
    rw [usedS_lp (by omega) e1 e2 hx.2 _ 0 used rfl (by omega) hu f1]
    have el : IntKind.wrap .i64 ((wide.length : Int) + 1) = ((wide ++ [v]).length : Int) := by
     rw [wrap64 (by omega) (by omega)]; simp
    rw [el, widthsS_lp hd ht hg ys (wide ++ [v]) _ (by rw [<- e3, List.length_append]; rfl) (fun x hx' => hy x (List.mem_cons_of_mem _ hx')) (by rw [setAll_len]; exact hu) (hw.app hacc)]
    simp only [Int.toNat_zero, List.drop_zero]
    cases widthsGo d ys (wide ++ [v]) (setAll used x.2.2.2.2.2.2) with
    | none => exact Ev.s1 Kr _
    | some r => exact Ev.s3 Kx _ _ _
   ·rw [if_pos hacc, acc, if_neg hacc]
  ·have e : (kidsIn (wide.length : Int) x.2.2.2.2.2.2 && plainB (x.1, x.2.1, x.2.2.1, x.2.2.2.1, x.2.2.2.2.1, x.2.2.2.2.2.1, x.2.2.2.2.2.2) && kindB d (x.1, x.2.1, x.2.2.1, x.2.2.2.1, x.2.2.2.2.1, x.2.2.2.2.2.1, x.2.2.2.2.2.2)) = false := by
    rw [Bool.eq_false_iff]
    intro h
    rw [Bool.and_eq_true, Bool.and_eq_true] at h
    exact hf ⟨h.1.1, h.1.2, h.2⟩
   rw [if_pos e, stepW, if_neg hf]
theorem allS_lp {wide : List Int} {used : List Bool} (hl : used.length <= 1048576) (h1 : 1 <= used.length) : ∀ (m : Nat) (i : Int), i + m = (used.length : Int) - 1 -> 0 <= i -> ∀ (Kx Kr : Nat -> List Int -> Prop),
  (Ev (fun n => Z63.l20 n wide [] used i (Kx n) (Kr n)) ↔ if ((used.take (used.length - 1)).drop i.toNat).all id = true then Ev (fun n => Kx n wide) else Ev (fun n => Kr n []))
 | 0, i, h, h0, Kx, Kr => by
  refine Ev.suc.trans ?_
  simp (disch := omega) only [Z63.l20, Z63.l20.b, wrap64, if_neg, decide_eq_true_eq, Ev.s1 Kx]
  rw [List.drop_eq_nil_of_le (by simp; omega)]
  simp
 | m + 1, i, h, h0, Kx, Kr => by
  refine Ev.suc.trans ?_
  have hk : i.toNat < (used.take (used.length - 1)).length := by simp; omega
  have e : (used.take (used.length - 1)).drop i.toNat = rd used i.toNat :: (used.take (used.length - 1)).drop (i + 1).toNat := by
   rw [List.drop_eq_getElem_cons hk, show (i + 1).toNat = i.toNat + 1 from by omega]
   congr 1
   rw [List.getElem_take, rd, List.getD_eq_getElem?_getD, List.getElem?_eq_getElem (by omega)]; rfl
  simp (disch := omega) only [Z63.l20, Z63.l20.b, wrap64, if_pos, decide_eq_true_eq, grd_dec2, Ev.iteI, Bool.not_eq_true', Ev.s1 Kr, e]
  rw [allS_lp hl h1 m (i + 1) (by omega) (by omega), Ev.s1 Kx, Ev.s1 Kr, List.all_cons, id]
  cases rd used i.toNat <;> simp
theorem widthsS_ev {d : List tDecl} {t : List tTNode} (hd : d.length <= 1099511627776) (hg : ∀ x : tTNode, x ∈ t -> Wd x.2.2.2.2.2.1 /\ x.2.2.2.2.2.2.length <= 1099511627776) (R : Nat -> List Int -> Prop) :
  Ev (fun n => Z63.c n d t (R n)) ↔ Ev (fun n => R n (if declsOk d = true /\ (widthsI d t).2 = true then (widthsI d t).1 else [])) := by
 refine Ev.suc.trans ?_
 simp only [Z63.c, Z63.w, declsOkS_ev, Ev.iteI, decide_eq_true_eq, decide_eq_false_iff_not, Bool.not_eq_false', Ev.s1 R, widthsI]
 by_cases h : declsOk d = true
 ·rw [if_pos h]
  by_cases hl : 1 <= t.length /\ t.length <= 400
  ·rw [if_pos (by omega), if_neg (by omega)]
   simp only [if_pos hl]
   have lp := fun (Kx : Nat -> List Int -> List Int -> List Bool -> Prop) (Kr : Nat -> List Int -> Prop) => widthsS_lp hd hl.2 hg t [] (List.replicate t.length false) rfl hg (by simp) (fun w hw => by cases hw) Kx Kr
   simp only [List.length_nil] at lp
   simp only [Int.natCast_zero] at lp
   simp (disch := omega) only [Z63.j0, grd_dec2, decide_true, Bool.and_true, Int.toNat_natCast]
   rw [lp]
   cases hg' : widthsGo d t [] (List.replicate t.length false) with
   | none => simp only [h, Bool.false_eq_true, and_false, if_false]; exact Ev.s1 R _
   | some r =>
    obtain ⟨h1, h2, h3⟩ := widthsGo_ok (fun w hw => by cases hw) hg'
    rw [List.length_replicate] at h3
    simp only [h, true_and]
    rw [allS_lp (by omega) (by omega) (t.length - 1) 0 (by omega) (by omega), Ev.s1 R, Ev.s1 R, h3]
    simp only [Int.toNat_zero, List.drop_zero]
    split <;> rfl
  ·simp only [if_neg hl, Bool.false_eq_true, and_false, if_false]
   split
   ·rw [if_pos (by omega)]
   ·rfl
 ·rw [if_neg h]
  simp only [h, false_and, if_false]
  rw [if_neg (by simp)]
theorem widthOfS_ev {d : List tDecl} {t : List tTNode} (hd : d.length <= 1099511627776) (hg : ∀ x : tTNode, x ∈ t -> Wd x.2.2.2.2.2.1 /\ x.2.2.2.2.2.2.length <= 1099511627776) (R : Nat -> Int -> Prop) :
  Ev (fun n => Z46.c n d t (R n)) ↔ Ev (fun n => R n (widthOf d t)) := by
 refine Ev.suc.trans ?_
 simp only [Z46.c, Z46.w, widthsS_ev hd hg, Ev.iteI, decide_eq_true_eq, Ev.s1 R, widthOf, widthI]
 by_cases h : declsOk d = true
 ·by_cases h2 : (widthsI d t).2 = true
  ·obtain ⟨h3, h4, h5, h6⟩ := widthsI_ok h2
   simp only [h, h2, and_self, if_true]
   rw [if_neg (by omega)]
   simp (disch := omega) only [wrap64, grd_dec2, Ev.s1 R]
   rw [show (((widthsI d t).1.length : Int) - 1).toNat = t.length - 1 from by omega]
  ·simp only [h, h2, and_false, if_false, List.length_nil, if_true]
   simp
 ·simp only [h, false_and, if_false, List.length_nil]
  simp
end Go.Vsi
end

section
set_option linter.unusedVariables false
set_option linter.unusedSimpArgs false
set_option synthInstance.maxSize 4096
namespace Go.Vsi
def LOk (l : List Int) : Prop := ∀ w ∈ l, 0 <= w /\ w <= 1000000
theorem LOk.app {acc : List Int} {w : Int} (h : LOk acc) (hw : 0 <= w /\ w <= 1000000) : LOk (acc ++ [w]) := by
 intro v hv
 rcases List.mem_append.1 hv with hv | hv
 ·exact h v hv
 ·rw [List.mem_singleton] at hv; subst hv; exact hw
end Go.Vsi
end

section
set_option linter.unusedVariables false
set_option linter.unusedSimpArgs false
set_option synthInstance.maxSize 4096
namespace Go.Vsi
theorem bitsOk_Ok {w : Int} {ws : List Nat} (hw : Below 18446744073709551616 ws) : bitsOk w (W ws) = true ↔ Ok w ws := by
 rw [bitsOk_W hw]
 exact ⟨fun ⟨a, b, c, d⟩ => ⟨a, b, c, hw, d⟩, fun h => ⟨h.lo, h.hi, h.len, h.top⟩⟩
theorem bitsOk_ok {w : Int} {l : List Int} (hw : Wd l) (h : bitsOk w l = true) : ∃ ws, l = W ws /\ Ok w ws := by
 obtain ⟨ws, rfl, hB⟩ := hw.of
 exact ⟨ws, rfl, (bitsOk_Ok hB).1 h⟩
theorem Ok.bits {w : Int} {ws : List Nat} (h : Ok w ws) : bitsOk w (W ws) = true := (bitsOk_Ok h.words).2 h
theorem shr_lt {x k : Nat} (hx : x < 18446744073709551616) : x >>> k < 18446744073709551616 := by
 rw [Nat.shiftRight_eq_div_pow]; exact Nat.lt_of_le_of_lt (Nat.div_le_self _ _) hx
end Go.Vsi
end

section
set_option linter.unusedVariables false
set_option linter.unusedSimpArgs false
set_option synthInstance.maxSize 4096
namespace Go.Vsi
end Go.Vsi
end

section
set_option linter.unusedVariables false
set_option linter.unusedSimpArgs false
set_option synthInstance.maxSize 4096
namespace Go.Vsi
theorem list_lp {w : Nat} {ws : List Nat} (hw : Below 18446744073709551616 ws) (hl : ws.length <= 4096) (hwl : w <= 64 * ws.length) : ∀ (m k : Nat), k + m = w -> ∀ R : Nat -> List Int -> Prop,
  (Ev (fun n => Z53.l3 n w (W ws) k (bl k (bit ws)) (R n)) ↔ Ev (fun n => R n (bl w (bit ws))))
 | 0, k, h, R => by
  obtain rfl : k = w := by omega
  refine Ev.suc.trans ?_
  simp (disch := omega) only [Z53.l3, Z53.l3.b, if_neg, decide_eq_true_eq, Ev.s1 R]
 | m + 1, k, h, R => by
  have ek : IntKind.wrap .i64 ((k : Int) + 1) = ((k + 1 : Nat) : Int) := wrap64 (by omega) (by omega)
  have e : bl k (bit ws) ++ [(((bit ws k).toNat : Nat) : Int)] = bl (k + 1) (bit ws) := by
   rw [bl_one, bl_app]
   refine bl_ext fun i hi => ?_
   split
   ·rfl
   ·congr 1; omega
  refine Ev.suc.trans ?_
  simp (disch := first | omega | (simp only [bl_len, List.length_cons, List.length_nil]; omega)) only [Z53.l3, Z53.l3.b, if_pos, decide_eq_true_eq, l1Bit_ev hw _ hl, grd_dec, ek, e]
  rw [list_lp hw hl hwl m (k + 1) (by omega), Ev.s1 R]
theorem list_ev {w : Nat} {ws : List Nat} (h : Ok w ws) (R : Nat -> List Int -> Prop) :
  Ev (fun n => Z53.c n w (W ws) (R n)) ↔ Ev (fun n => R n (bl w (bit ws))) := by
 have hlen := h.len
 have hhi := h.hi
 have k := list_lp (w := w) h.words (by omega) (by omega) w 0 (by omega) (fun n => R (n + 1))
 simp only [Int.natCast_zero, bl_zero] at k
 refine Ev.suc.trans ?_
 simp only [Z53.c, Z53.w]
 rw [k, Ev.s1 R]
end Go.Vsi
end

section
set_option linter.unusedVariables false
set_option linter.unusedSimpArgs false
set_option synthInstance.maxSize 4096
namespace Go.Vsi
def hexL : List UInt8 := [48, 49, 50, 51, 52, 53, 54, 55, 56, 57, 97, 98, 99, 100, 101, 102]
def hexI (v : Nat) : Int := ((List.getD hexL v 0).toNat : Int)
def dig (ws : List Nat) (e at_ : Nat) : Nat := (ws.getD (at_ / 64) 0 >>> (at_ % 64)) % 2 ^ e
def dgs (ws : List Nat) (e : Nat) : Nat -> List Int
 | 0 => []
 | k + 1 => hexI (dig ws e (e * k)) :: dgs ws e k
theorem dgs_len {ws : List Nat} {e : Nat} : ∀ k, (dgs ws e k).length = k
 | 0 => rfl
 | k + 1 => by rw [dgs, List.length_cons, dgs_len k]
def wtxI (w : Nat) (ws : List Nat) : List Int := if w % 4 = 0 then [35, 120] ++ dgs ws 4 (w / 4) else [35, 98] ++ dgs ws 1 w
def wN (l : List Int) : List Nat := l.map Int.toNat
theorem wN_W (ws : List Nat) : wN (W ws) = ws := by
 unfold wN W
 rw [List.map_map]
 exact List.map_id' _
def wtx (b : Int) (l : List Int) : List UInt8 := if bitsOk b l = true then bytesStr (wtxI b.toNat (wN l)) else []
theorem bytesStr_len (l : List Int) : (bytesStr l).length = l.length := by simp [bytesStr]
theorem wtx_len (b : Int) (l : List Int) : (wtx b l).length <= 4098 := by
 rw [wtx]
 split
 ·rename_i h
  rw [bitsOk] at h
  have hb : b <= 4096 := by
   simp only [Bool.and_eq_true, decide_eq_true_eq] at h
   omega
  rw [bytesStr_len, wtxI]
  split
  ·rw [List.length_append, dgs_len]; simp; omega
  ·rw [List.length_append, dgs_len]; simp; omega
 ·simp
theorem writeI_lp {ws : List Nat} (hw : Below 18446744073709551616 ws) (hl : ws.length <= 64) {e : Nat} (he : e = 1 \/ e = 4) {x25 : Int} : ∀ (k : Nat) (o : List Int), e * k <= 64 * ws.length -> o.length + k <= 8192 -> ∀ Kx : Nat -> List Int -> Prop,
  (Ev (fun n => Z6.l8 n e x25 (W ws) ((e * k : Nat) - (e : Int)) o (Kx n)) ↔ Ev (fun n => Kx n (o ++ dgs ws e k)))
 | 0, o, h1, h2, Kx => by
  refine Ev.suc.trans ?_
  simp only [Z6.l8, Z6.l8.b]
  rw [Ev.iteI, if_neg (by simp; omega), dgs, List.append_nil, Ev.s1 Kx]
 | k + 1, o, h1, h2, Kx => by
  have ek : ((e * (k + 1) : Nat) : Int) - (e : Int) = ((e * k : Nat) : Int) := by rw [Nat.mul_add, Nat.mul_one]; omega
  rw [Nat.mul_add, Nat.mul_one] at h1
  have hk : e * k <= 4096 := by omega
  have e1 : IntKind.wrap .i64 (Int.tdiv ((e * k : Nat) : Int) 64) = ((e * k / 64 : Nat) : Int) := by rw [tdivP (by omega), wrap64 (by omega) (by omega)]; omega
  have e2 : Int.tmod ((e * k : Nat) : Int) 64 = ((e * k % 64 : Nat) : Int) := by rw [tmodP (by omega)]; omega
  have hx : ws.getD (e * k / 64) 0 < 18446744073709551616 := hw.getD (by decide) _
  have es := shr_W (ws.getD (e * k / 64) 0) (e * k % 64) (by omega)
  have hx2 : ws.getD (e * k / 64) 0 >>> (e * k % 64) < 18446744073709551616 := shr_lt hx
  have e3 : IntKind.wrap .u64 ((IntKind.wrap .u64 (1 * 2 ^ (Nat.min (Int.toNat (e : Int)) 64))) - 1) = ((2 ^ e - 1 : Nat) : Int) := by
   rcases he with rfl | rfl <;> decide
  have ea : ibits .and .u64 ((ws.getD (e * k / 64) 0 >>> (e * k % 64) : Nat) : Int) ((2 ^ e - 1 : Nat) : Int) = ((dig ws e (e * k) : Nat) : Int) := by
   rw [and_W hx2 (by rcases he with rfl | rfl <;> decide), dig]
   congr 1
   exact Nat.and_two_pow_sub_one_eq_mod _ _
  have hd : dig ws e (e * k) < 16 := by
   have : dig ws e (e * k) < 2 ^ e := Nat.mod_lt _ (Nat.pow_pos (by decide))
   rcases he with rfl | rfl <;> omega
  have e5 : IntKind.wrap .i64 (((e * k : Nat) : Int) - (e : Int)) = ((e * k : Nat) : Int) - (e : Int) := wrap64 (by omega) (by omega)
  have ih := writeI_lp hw hl he (x25 := x25) k (o ++ [hexI (dig ws e (e * k))]) (by omega) (by simp; omega) (fun n => Kx (n + 1))
  refine Ev.suc.trans ?_
  rw [ek]
  simp only [Z6.l8, Z6.l8.b, e1, e2, Int.toNat_natCast, W_rd, W_len, es, e5]
  rw [Ev.iteI, if_pos (decide_eq_true (Int.natCast_nonneg _))]
  simp (disch := omega) only [grd_dec2, grd_dec]
  rw [show IntKind.wrap .u64 (1 * 2 ^ (Nat.min e 64)) - 1 = IntKind.wrap .u64 (1 * 2 ^ (Nat.min (Int.toNat (e : Int)) 64)) - 1 from by rw [Int.toNat_natCast], e3, ea]
  simp only [Int.toNat_natCast]
  have g1 : (0 : Int) <= (dig ws e (e * k) : Int) /\ (dig ws e (e * k) : Int) < ((([48, 49, 50, 51, 52, 53, 54, 55, 56, 57, 97, 98, 99, 100, 101, 102] : List UInt8).length : Nat) : Int) := ⟨by omega, by simp; omega⟩
  simp only [grd_dec2 g1]
  have g2 : o.length + ([((List.getD ([48, 49, 50, 51, 52, 53, 54, 55, 56, 57, 97, 98, 99, 100, 101, 102] : List UInt8) (dig ws e (e * k)) 0).toNat : Int)] : List Int).length <= 35184372088832 := by simp; omega
  simp only [grd_dec g2]
  refine ih.trans ?_
  rw [Ev.s1 Kx, dgs, List.append_assoc]; rfl
theorem writeI_ev {b : Int} {l : List Int} (hl : Wd l) (R : Nat -> List UInt8 -> Prop) : Ev (fun n => Z6.c n b l (R n)) ↔ Ev (fun n => R n (wtx b l)) := by
 refine Ev.suc.trans ?_
 simp only [Z6.c, Z6.w, implOk_ev, Ev.iteI]
 by_cases h : bitsOk b l = true
 ·obtain ⟨ws, rfl, ho⟩ := bitsOk_ok hl h
  have h1 := ho.lo
  have h2 := ho.hi
  have h3 := ho.len
  obtain ⟨w, rfl⟩ : ∃ w : Nat, b = (w : Int) := ⟨b.toNat, by omega⟩
  rw [if_neg (by rw [h]; decide), wtx, if_pos h, wN_W, Int.toNat_natCast, wtxI, tmodP (by omega)]
  by_cases hm : w % 4 = 0
  ·have lp := writeI_lp ho.words (by omega) (.inr rfl) (x25 := (w : Int)) (w / 4) [35, 120] (by omega) (by simp; omega) (fun n y => R (n + 1) (bytesStr y))
   rw [if_pos (by simp; omega), if_pos hm]
   rw [show IntKind.wrap .i64 ((w : Int) - 4) = ((4 * (w / 4) : Nat) : Int) - ((4 : Nat) : Int) from by rw [wrap64 (by omega) (by omega)]; omega]
   exact lp.trans (Ev.s1 R _)
  ·have lp := writeI_lp ho.words (by omega) (.inl rfl) (x25 := (w : Int)) w [35, 98] (by omega) (by simp; omega) (fun n y => R (n + 1) (bytesStr y))
   rw [if_neg (by simp; omega), if_neg hm]
   rw [show IntKind.wrap .i64 ((w : Int) - 1) = ((1 * w : Nat) : Int) - ((1 : Nat) : Int) from by rw [wrap64 (by omega) (by omega)]; omega]
   exact lp.trans (Ev.s1 R _)
 ·rw [if_pos (by simpa using h), wtx, if_neg h, Ev.s1 R]
end Go.Vsi
end

section
set_option linter.unusedVariables false
set_option linter.unusedSimpArgs false
set_option synthInstance.maxSize 4096
namespace Go.Vsi
theorem turned_lp {l : List Int} (hl : l.length <= 8192) : ∀ (k : Nat) (o : List Int), k <= l.length -> o = (l.drop k).reverse -> ∀ Kx : Nat -> List Int -> Prop,
  (Ev (fun n => Z55.l3 n l ((k : Int) - 1) o (Kx n)) ↔ Ev (fun n => Kx n l.reverse))
 | 0, o, hk, ho, Kx => by
  refine Ev.suc.trans ?_
  simp only [Z55.l3, Z55.l3.b]
  rw [Ev.iteI, if_neg (by simp), Ev.s1 Kx, ho]; rfl
 | k + 1, o, hk, ho, Kx => by
  have hlen : o.length = l.length - (k + 1) := by rw [ho, List.length_reverse, List.length_drop]
  have e0 : o ++ [rd l k] = (l.drop k).reverse := by
   rw [List.drop_eq_getElem_cons (show k < l.length by omega), List.reverse_cons, <- ho, rd, List.getD_eq_getElem?_getD, List.getElem?_eq_getElem (show k < l.length by omega)]; rfl
  have ih := turned_lp hl k (o ++ [rd l k]) (by omega) e0 (fun n => Kx (n + 1))
  refine Ev.suc.trans ?_
  simp only [Z55.l3, Z55.l3.b]
  rw [show ((k + 1 : Nat) : Int) - 1 = (k : Int) from by omega, wrap64 (x := (k : Int) - 1) (by omega) (by omega), Int.toNat_natCast, Ev.iteI, if_pos (by simp)]
  have g1 : (0 : Int) <= (k : Int) /\ (k : Int) < (l.length : Int) := ⟨by omega, by omega⟩
  have g2 : o.length + ([rd l k] : List Int).length <= 35184372088832 := by simp; omega
  simp only [grd_dec2 g1, grd_dec g2]
  exact ih.trans (Ev.s1 Kx _)
theorem turned_ev {l : List Int} (hl : l.length <= 8192) (R : Nat -> List Int -> Prop) : Ev (fun n => Z55.c n l (R n)) ↔ Ev (fun n => R n l.reverse) := by
 refine Ev.suc.trans ?_
 simp only [Z55.c, Z55.w]
 rw [wrap64 (by omega) (by omega)]
 exact (turned_lp hl l.length [] (Nat.le_refl _) (by simp) (fun n => R (n + 1))).trans (Ev.s1 R _)
theorem nib {y : Nat} : y % 16 = 8 * (y.testBit 3).toNat + 4 * (y.testBit 2).toNat + 2 * (y.testBit 1).toNat + (y.testBit 0).toNat := by
 have h : ∀ a : Nat, (decide (a % 2 = 1)).toNat = a % 2 := fun a => by
  rcases Nat.mod_two_eq_zero_or_one a with e | e <;> rw [e] <;> rfl
 rw [Nat.testBit_eq_decide_div_mod_eq, Nat.testBit_eq_decide_div_mod_eq, Nat.testBit_eq_decide_div_mod_eq, Nat.testBit_eq_decide_div_mod_eq, h, h, h, h]
 omega
theorem dig4 {ws : List Nat} {k : Nat} : dig ws 4 (4 * k) = 8 * (bit ws (4 * k + 3)).toNat + 4 * (bit ws (4 * k + 2)).toNat + 2 * (bit ws (4 * k + 1)).toNat + (bit ws (4 * k)).toNat := by
 unfold dig bit
 rw [show (4 * k + 3) / 64 = 4 * k / 64 from by omega, show (4 * k + 2) / 64 = 4 * k / 64 from by omega, show (4 * k + 1) / 64 = 4 * k / 64 from by omega,
  show (4 * k + 3) % 64 = 4 * k % 64 + 3 from by omega, show (4 * k + 2) % 64 = 4 * k % 64 + 2 from by omega, show (4 * k + 1) % 64 = 4 * k % 64 + 1 from by omega,
  show (2 : Nat) ^ 4 = 16 from rfl, nib, Nat.testBit_shiftRight, Nat.testBit_shiftRight, Nat.testBit_shiftRight, Nat.testBit_shiftRight, Nat.add_zero (4 * k % 64)]
theorem dig1 {ws : List Nat} {k : Nat} : hexI (dig ws 1 (1 * k)) = 48 + ((bit ws k).toNat : Int) := by
 have h : ∀ b : Bool, ∀ a : Nat, a = b.toNat -> hexI a = 48 + (b.toNat : Int) := fun b a e => by subst e; cases b <;> rfl
 refine h _ _ ?_
 unfold dig bit
 rw [Nat.one_mul, Nat.pow_one]
 have hm : ∀ y : Nat, y % 2 = (y.testBit 0).toNat := fun y => by
  rw [Nat.testBit_eq_decide_div_mod_eq, Nat.pow_zero, Nat.div_one]
  rcases Nat.mod_two_eq_zero_or_one y with e | e <;> rw [e] <;> rfl
 rw [hm, Nat.testBit_shiftRight, Nat.add_zero]
theorem rd_rev {w : Nat} {f : Nat -> Bool} {i : Nat} (hi : i < w) : rd (bl w f).reverse i = ((f (w - 1 - i)).toNat : Int) := by
 have hl : (bl w f).length = w := bl_len w f
 rw [rd, List.getD_eq_getElem?_getD, List.getElem?_reverse (by omega), hl, <- List.getD_eq_getElem?_getD]
 exact bl_rd (by omega)
theorem skip_lp {l : List Int} {w : Nat} {x32 : List Int} (hw : w % 4 = 0) (hl : l.length = w) (hw2 : w <= 4096) {i : Nat} (hi : i < w) (h4 : i % 4 ≠ 0) {o : List Int} {Kx : Nat -> List Int -> Prop} :
  Ev (fun n => Z47.l8 n l w x32 i o (Kx n)) ↔ Ev (fun n => Z47.l8 n l w x32 ((i + 1 : Nat) : Int) o (Kx (n + 1))) := by
 refine Ev.suc.trans ?_
 simp only [Z47.l8, Z47.l8.b]
 rw [Ev.iteI, if_pos (by simp; omega), tmodP (by omega), tmodP (by omega), wrap64 (x := (i : Int) + 1) (by omega) (by omega)]
 rw [Ev.iteI, if_neg (by simp; omega), Ev.iteI, if_neg (by simp; omega)]; rfl
theorem hexS_lp {w : Nat} {ws : List Nat} {x32 : List Int} (hw : w % 4 = 0) (hw2 : w <= 4096) : ∀ (k : Nat) (o : List Int), 4 * k <= w -> o.length + k <= 8192 -> ∀ Kx : Nat -> List Int -> Prop,
  (Ev (fun n => Z47.l8 n (bl w (bit ws)).reverse w x32 ((w - 4 * k : Nat) : Int) o (Kx n)) ↔ Ev (fun n => Kx n (o ++ dgs ws 4 k)))
 | 0, o, hk, ho, Kx => by
  have hl : (bl w (bit ws)).reverse.length = w := by rw [List.length_reverse, bl_len]
  refine Ev.suc.trans ?_
  simp only [Z47.l8, Z47.l8.b, hl]
  rw [Ev.iteI, if_neg (by simp), dgs, List.append_nil, Ev.s1 Kx]
 | k + 1, o, hk, ho, Kx => by
  have hl : (bl w (bit ws)).reverse.length = w := by rw [List.length_reverse, bl_len]
  obtain ⟨i, ei⟩ : ∃ i, i = w - 4 * (k + 1) := ⟨_, rfl⟩
  have ih := hexS_lp (ws := ws) (x32 := x32) hw hw2 k (o ++ [hexI (dig ws 4 (4 * k))]) (by omega) (by simp; omega) (fun n => Kx (n + 1 + 1 + 1 + 1))
  have s1 := skip_lp (l := (bl w (bit ws)).reverse) (x32 := x32) hw hl hw2 (i := i + 1) (by omega) (by omega) (o := o ++ [hexI (dig ws 4 (4 * k))]) (Kx := fun n => Kx (n + 1))
  have s2 := skip_lp (l := (bl w (bit ws)).reverse) (x32 := x32) hw hl hw2 (i := i + 1 + 1) (by omega) (by omega) (o := o ++ [hexI (dig ws 4 (4 * k))]) (Kx := fun n => Kx (n + 1 + 1))
  have s3 := skip_lp (l := (bl w (bit ws)).reverse) (x32 := x32) hw hl hw2 (i := i + 1 + 1 + 1) (by omega) (by omega) (o := o ++ [hexI (dig ws 4 (4 * k))]) (Kx := fun n => Kx (n + 1 + 1 + 1))
  rw [show w - 4 * k = i + 1 + 1 + 1 + 1 from by omega] at ih
  have r0 := rd_rev (f := bit ws) (show i < w by omega)
  have r1 := rd_rev (f := bit ws) (show i + 1 < w by omega)
  have r2 := rd_rev (f := bit ws) (show i + 2 < w by omega)
  have r3 := rd_rev (f := bit ws) (show i + 3 < w by omega)
  rw [show w - 1 - i = 4 * k + 3 from by omega] at r0
  rw [show w - 1 - (i + 1) = 4 * k + 2 from by omega] at r1
  rw [show w - 1 - (i + 2) = 4 * k + 1 from by omega] at r2
  rw [show w - 1 - (i + 3) = 4 * k from by omega] at r3
  have hd := dig4 (ws := ws) (k := k)
  have b0 := Bool.toNat_le (bit ws (4 * k + 3))
  have b1 := Bool.toNat_le (bit ws (4 * k + 2))
  have b2 := Bool.toNat_le (bit ws (4 * k + 1))
  have b3 := Bool.toNat_le (bit ws (4 * k))
  generalize (bit ws (4 * k + 3)).toNat = a0 at *
  generalize (bit ws (4 * k + 2)).toNat = a1 at *
  generalize (bit ws (4 * k + 1)).toNat = a2 at *
  generalize (bit ws (4 * k)).toNat = a3 at *
  have w8 : ∀ x : Int, 0 <= x -> x < 256 -> IntKind.wrap .u8 x = x := fun x h0 h1 => by
   show x % 256 = x
   exact Int.emod_eq_of_lt h0 h1
  have ev : IntKind.wrap .u8 (IntKind.wrap .u8 (IntKind.wrap .u8 (IntKind.wrap .u8 (8 * (a0 : Int)) + IntKind.wrap .u8 (4 * (a1 : Int))) + IntKind.wrap .u8 (2 * (a2 : Int))) + (a3 : Int)) = ((dig ws 4 (4 * k) : Nat) : Int) := by
   rw [w8 (8 * (a0 : Int)) (by omega) (by omega), w8 (4 * (a1 : Int)) (by omega) (by omega), w8 (2 * (a2 : Int)) (by omega) (by omega), w8 (8 * (a0 : Int) + 4 * a1) (by omega) (by omega), w8 (8 * (a0 : Int) + 4 * a1 + 2 * a2) (by omega) (by omega), w8 _ (by omega) (by omega), hd]
   omega
  refine Ev.suc.trans ?_
  rw [<- ei]
  simp only [Z47.l8, Z47.l8.b, hl]
  rw [tmodP (by omega), tmodP (by omega), wrap64 (x := (i : Int) + 1) (by omega) (by omega), wrap64 (x := (i : Int) + 2) (by omega) (by omega), wrap64 (x := (i : Int) + 3) (by omega) (by omega)]
  rw [show ((i : Int) + 1).toNat = i + 1 from by omega, show ((i : Int) + 2).toNat = i + 2 from by omega, show ((i : Int) + 3).toNat = i + 3 from by omega, Int.toNat_natCast, r0, r1, r2, r3, ev, Int.toNat_natCast]
  rw [Ev.iteI, if_pos (by simp; omega), Ev.iteI, if_neg (by simp; omega), Ev.iteI, if_pos (by simp; omega)]
  have g0 : (0 : Int) <= (i : Int) /\ (i : Int) < ((w : Nat) : Int) := ⟨by omega, by omega⟩
  have g1 : (0 : Int) <= (i : Int) + 1 /\ (i : Int) + 1 < ((w : Nat) : Int) := ⟨by omega, by omega⟩
  have g2 : (0 : Int) <= (i : Int) + 2 /\ (i : Int) + 2 < ((w : Nat) : Int) := ⟨by omega, by omega⟩
  have g3 : (0 : Int) <= (i : Int) + 3 /\ (i : Int) + 3 < ((w : Nat) : Int) := ⟨by omega, by omega⟩
  have g4 : (0 : Int) <= (dig ws 4 (4 * k) : Int) /\ (dig ws 4 (4 * k) : Int) < ((([48, 49, 50, 51, 52, 53, 54, 55, 56, 57, 97, 98, 99, 100, 101, 102] : List UInt8).length : Nat) : Int) := ⟨by omega, by simp; omega⟩
  have g5 : o.length + ([((List.getD ([48, 49, 50, 51, 52, 53, 54, 55, 56, 57, 97, 98, 99, 100, 101, 102] : List UInt8) (dig ws 4 (4 * k)) 0).toNat : Int)] : List Int).length <= 35184372088832 := by simp; omega
  simp only [grd_dec2 g0, grd_dec2 g1, grd_dec2 g2, grd_dec2 g3, grd_dec2 g4, grd_dec g5]
  refine (s1.trans (s2.trans (s3.trans ih))).trans ?_
  rw [dgs, List.append_assoc]
  exact (Ev.suc (P := fun n => Kx (n + 1 + 1 + 1) (o ++ ([hexI (dig ws 4 (4 * k))] ++ dgs ws 4 k)))).symm.trans ((Ev.suc (P := fun n => Kx (n + 1 + 1) (o ++ ([hexI (dig ws 4 (4 * k))] ++ dgs ws 4 k)))).symm.trans ((Ev.suc (P := fun n => Kx (n + 1) (o ++ ([hexI (dig ws 4 (4 * k))] ++ dgs ws 4 k)))).symm.trans (Ev.s1 Kx _)))
theorem binS_lp {w : Nat} {ws : List Nat} {x32 : List Int} (hw : w % 4 ≠ 0) (hw2 : w <= 4096) : ∀ (k : Nat) (o : List Int), k <= w -> o.length + k <= 8192 -> ∀ Kx : Nat -> List Int -> Prop,
  (Ev (fun n => Z47.l8 n (bl w (bit ws)).reverse w x32 ((w - k : Nat) : Int) o (Kx n)) ↔ Ev (fun n => Kx n (o ++ dgs ws 1 k)))
 | 0, o, hk, ho, Kx => by
  have hl : (bl w (bit ws)).reverse.length = w := by rw [List.length_reverse, bl_len]
  refine Ev.suc.trans ?_
  simp only [Z47.l8, Z47.l8.b, hl]
  rw [Ev.iteI, if_neg (by simp), dgs, List.append_nil, Ev.s1 Kx]
 | k + 1, o, hk, ho, Kx => by
  have hl : (bl w (bit ws)).reverse.length = w := by rw [List.length_reverse, bl_len]
  obtain ⟨i, ei⟩ : ∃ i, i = w - (k + 1) := ⟨_, rfl⟩
  have ih := binS_lp (ws := ws) (x32 := x32) hw hw2 k (o ++ [hexI (dig ws 1 (1 * k))]) (by omega) (by simp; omega) (fun n => Kx (n + 1))
  rw [show w - k = i + 1 from by omega] at ih
  have r0 := rd_rev (f := bit ws) (show i < w by omega)
  rw [show w - 1 - i = k from by omega] at r0
  have b0 := Bool.toNat_le (bit ws k)
  have ev : IntKind.wrap .u8 (48 + ((bit ws k).toNat : Int)) = hexI (dig ws 1 (1 * k)) := by
   rw [dig1]
   show (48 + ((bit ws k).toNat : Int)) % 256 = _
   exact Int.emod_eq_of_lt (by omega) (by omega)
  refine Ev.suc.trans ?_
  rw [<- ei]
  simp only [Z47.l8, Z47.l8.b, hl]
  rw [tmodP (by omega), wrap64 (x := (i : Int) + 1) (by omega) (by omega), Int.toNat_natCast, r0, ev]
  rw [Ev.iteI, if_pos (by simp; omega), Ev.iteI, if_pos (by simp; omega)]
  have g0 : (0 : Int) <= (i : Int) /\ (i : Int) < ((w : Nat) : Int) := ⟨by omega, by omega⟩
  have g5 : o.length + ([hexI (dig ws 1 (1 * k))] : List Int).length <= 35184372088832 := by simp; omega
  simp only [grd_dec2 g0, grd_dec g5]
  refine ih.trans ?_
  rw [Ev.s1 Kx, dgs, List.append_assoc]; rfl
theorem writeS_ev {b : Int} {l : List Int} (hl : Wd l) (R : Nat -> List UInt8 -> Prop) : Ev (fun n => Z47.c n b l (R n)) ↔ Ev (fun n => R n (wtx b l)) := by
 refine Ev.suc.trans ?_
 simp only [Z47.c, Z47.w, specOk_ev hl, Ev.iteI]
 by_cases h : bitsOk b l = true
 ·obtain ⟨ws, rfl, ho⟩ := bitsOk_ok hl h
  have h1 := ho.lo
  have h2 := ho.hi
  obtain ⟨w, rfl⟩ : ∃ w : Nat, b = (w : Int) := ⟨b.toNat, by omega⟩
  rw [if_neg (by rw [h]; decide), wtx, if_pos h, wN_W, Int.toNat_natCast, wtxI, list_ev ho, turned_ev (by rw [bl_len]; omega)]
  have g1 : 0 < ([35, 98] : List Int).length := by decide
  have g2 : 0 < ([35, 120] : List Int).length := by decide
  simp only [grd_dec g1, grd_dec g2, Ev.iteI, decide_eq_true_eq]
  rw [tmodP (by omega)]
  by_cases hm : w % 4 = 0
  ·have lp := hexS_lp (ws := ws) (x32 := W ws) hm (by omega) (w / 4) [35, 120] (by omega) (by simp; omega) (fun n y => R (n + 1) (bytesStr y))
   rw [show w - 4 * (w / 4) = 0 from by omega] at lp
   rw [if_pos (by omega), if_pos hm]
   exact lp.trans (Ev.s1 R _)
  ·have lp := binS_lp (ws := ws) (x32 := W ws) hm (by omega) w [35, 98] (Nat.le_refl _) (by simp; omega) (fun n y => R (n + 1) (bytesStr y))
   rw [show w - w = 0 from by omega] at lp
   rw [if_neg (by omega), if_neg hm]
   exact lp.trans (Ev.s1 R _)
 ·rw [if_pos (by simpa using h), wtx, if_neg h, Ev.s1 R]
theorem itoa_nat (a : Nat) : Go.Lib.itoa (a : Int) = Go.Lib.decDigits a := by
 rw [Go.Lib.itoa, if_neg (by omega), Int.toNat_natCast]
theorem dec_lp : ∀ (f a : Nat) (o : List UInt8), 0 < a -> a <= f -> a <= 1000000 -> o.length + a <= 4000000 -> ∀ Kx : Nat -> List UInt8 -> Prop,
  (Ev (fun n => Z50.l4 n a o (Kx n)) ↔ Ev (fun n => Kx n (Go.Lib.decDigits a ++ o)))
 | 0, a, o, h0, hf, h1, ho, Kx => by omega
 | f + 1, a, o, h0, hf, h1, ho, Kx => by
  have e0 : IntKind.wrap .u8 (IntKind.wrap .i64 (48 + ((a % 10 : Nat) : Int))) = ((48 + a % 10 : Nat) : Int) := by
   rw [wrap64 (by omega) (by omega)]
   show (48 + ((a % 10 : Nat) : Int)) % 256 = _
   omega
  have eb : bytesStr ([((48 + a % 10 : Nat) : Int)] : List Int) = [UInt8.ofNat (48 + a % 10)] := by
   show [UInt8.ofNat ((48 + a % 10 : Nat) : Int).toNat] = _
   rw [Int.toNat_natCast]
  refine Ev.suc.trans ?_
  simp only [Z50.l4, Z50.l4.b]
  rw [tmodP (by omega), tdivP (by omega), show (a : Int) % 10 = ((a % 10 : Nat) : Int) from by omega, e0, eb, show (a : Int) / 10 = ((a / 10 : Nat) : Int) from by omega, wrap64 (by omega) (by omega), Ev.iteI, if_pos (by simp; omega)]
  have g : ([UInt8.ofNat (48 + a % 10)] : List UInt8).length + o.length <= 9223372036854775807 := by simp; omega
  simp only [grd_dec g]
  rw [Go.Lib.decDigits]
  by_cases h : a < 10
  ·rw [dif_pos h, show a / 10 = 0 from by omega, show a % 10 = a from by omega]
   refine Ev.suc.trans ?_
   simp only [Z50.l4, Z50.l4.b]
   rw [Ev.iteI, if_neg (by simp)]
   exact (Ev.suc (P := fun n => Kx (n + 1) ([UInt8.ofNat (48 + a)] ++ o))).symm.trans (Ev.s1 Kx _)
  ·rw [dif_neg h]
   refine (dec_lp f (a / 10) ([UInt8.ofNat (48 + a % 10)] ++ o) (by omega) (by omega) (by omega) (by simp; omega) (fun n => Kx (n + 1))).trans ?_
   rw [Ev.s1 Kx, List.append_assoc]
theorem dec_ev {a : Int} (h0 : 0 <= a) (h1 : a <= 1000000) (R : Nat -> List UInt8 -> Prop) : Ev (fun n => Z50.c n a (R n)) ↔ Ev (fun n => R n (Go.Lib.itoa a)) := by
 obtain ⟨k, rfl⟩ : ∃ k : Nat, a = (k : Int) := ⟨a.toNat, by omega⟩
 refine Ev.suc.trans ?_
 simp only [Z50.c, Z50.w, Ev.iteI, itoa_nat]
 by_cases hk : k = 0
 ·subst hk
  rw [if_pos (by decide), Ev.s1 R, Go.Lib.decDigits]; rfl
 ·rw [if_neg (by simp; omega), dec_lp k k [] (by omega) (Nat.le_refl _) (by omega) (by simp; omega) (fun n => R (n + 1)), List.append_nil, Ev.s1 R]
theorem dec_len : ∀ (f a : Nat), a <= f -> (Go.Lib.decDigits a).length <= a + 1
 | 0, a, h => by
  rw [Go.Lib.decDigits, dif_pos (by omega)]; simp
 | f + 1, a, h => by
  rw [Go.Lib.decDigits]
  by_cases h10 : a < 10
  ·rw [dif_pos h10]; simp
  ·rw [dif_neg h10, List.length_append]
   have := dec_len f (a / 10) (by omega)
   simp; omega
theorem itoa_len {a : Int} (h0 : 0 <= a) (h1 : a <= 1000000) : (Go.Lib.itoa a).length <= 1000001 := by
 obtain ⟨k, rfl⟩ : ∃ k : Nat, a = (k : Int) := ⟨a.toNat, by omega⟩
 rw [itoa_nat]
 have := dec_len k k (Nat.le_refl _)
 omega
theorem fmt_ev {a : Int} (h0 : 0 <= a) (h1 : a <= 1000000) (R : Nat -> List UInt8 -> Prop) : Ev (fun n => Z65.c n a 10 (R n)) ↔ Ev (fun n => R n (Go.Lib.itoa a)) := by
 refine Ev.suc.trans ?_
 simp only [Z65.c, Z65.w]
 rw [show (decide (-9223372036854775808 <= a) && decide (a <= 9223372036854775807)) = true from by simp; omega]
 exact Ev.s1 R _
end Go.Vsi
end

section
set_option linter.unusedVariables false
set_option linter.unusedSimpArgs false
set_option synthInstance.maxSize 4096
namespace Go.Vsi
def wordsL : List (List UInt8) := [[99, 97, 116], [112, 97, 114, 116], [122, 101, 114, 111], [115, 105, 103, 110], [108, 101, 102, 116], [114, 105, 103, 104, 116], [114, 101, 112]]
def wordOf (op : Int) : List UInt8 := rd wordsL (op - 3).toNat
def numsOf (x : tTNode) : List (List UInt8) := if x.1 = 3 then [] else if x.1 = 4 then [Go.Lib.itoa x.2.2.1, Go.Lib.itoa x.2.2.2.1] else [Go.Lib.itoa x.2.2.1]
def txtN (d : List tDecl) (x : tTNode) (ks : List (List UInt8)) : List UInt8 :=
 if x.1 = 1 then (rd d x.2.1.toNat).1
 else if x.1 = 2 then wtx x.2.2.2.2.1 x.2.2.2.2.2.1
 else ([40] ++ (wordOf x.1 ++ Go.Lib.joinTail [32] (numsOf x ++ ks))) ++ [41]
def NodeT (d : List tDecl) (x : tTNode) (m : Int) : Prop :=
 (kidsIn m x.2.2.2.2.2.2 = true /\ x.2.2.2.2.2.2.length <= 4096) /\ ((x.1 = 1 /\ x.2.2.2.2.2.2.length = 0 /\ 0 <= x.2.1 /\ x.2.1 <= (d.length : Int) - 1) \/ (x.1 = 2 /\ x.2.2.2.2.2.2.length = 0) \/
  ((3 <= x.1 /\ x.1 <= 9) /\ (x.1 ≠ 3 -> 0 <= x.2.2.1 /\ x.2.2.1 <= 8192) /\ (x.1 = 4 -> 0 <= x.2.2.2.1 /\ x.2.2.2.1 <= 8192)))
def NodesT (d : List tDecl) : List tTNode -> Int -> Prop
 | [], _ => True
 | x :: r, m => NodeT d x m /\ NodesT d r (m + 1)
theorem capSum_le {l : List Int} (h : WOk l) : capSum 0 l <= 8192 := by
 rw [capSum_eq (by omega) (by omega) h]
 split <;> omega
theorem stepW_T {d : List tDecl} {x : tTNode} {wide : List Int} {w : Int} (hw : WOk wide) (h : stepW d x wide = some w) : NodeT d x wide.length := by
 have h' := h
 unfold stepW at h
 split at h
 ·rename_i hc
  have hk := kids_wok hw hc.1
  have e := step_eq (d := d) (x := x) hk (by simp)
  have hcap := capSum_le hk
  rw [if_pos hc.2.2, h] at e
  obtain ⟨a1, a2, a3⟩ := acc_some h
  rw [<- a1] at a2 a3
  split at e
  ·rename_i hl
   have hkb := hc.2.2
   rw [kindB, decide_eq_true_eq] at hkb
   refine ⟨⟨hc.1, hl⟩, ?_⟩
   rcases hkb with ⟨h1, h2, h3, h4⟩ | ⟨h1, h2, h3⟩ | ⟨h1, h2⟩ | ⟨h1, h2, h3⟩
   ·exact .inl ⟨h1, h2, h3, h4⟩
   ·exact .inr (.inl ⟨h1, h2⟩)
   ·exact .inr (.inr ⟨by omega, fun hn => absurd h1 hn, fun h4 => by omega⟩)
   ·refine .inr (.inr ⟨by omega, ?_⟩)
    unfold specW at a1
    rw [if_neg (by omega), if_neg (by omega)] at a1
    by_cases c4 : x.1 = 4
    ·rw [if_pos c4] at a1
     split at a1
     ·omega
     ·rename_i hn
      simp only [not_or] at hn
      exact ⟨fun _ => by omega, fun _ => by omega⟩
    ·rw [if_neg c4] at a1
     refine ⟨fun _ => ?_, fun h => absurd h c4⟩
     by_cases c5 : x.1 = 5 \/ x.1 = 6
     ·rw [if_pos c5] at a1
      split at a1 <;> omega
     ·rw [if_neg c5] at a1
      by_cases c7 : x.1 = 7 \/ x.1 = 8
      ·rw [if_pos c7] at a1
       split at a1 <;> omega
      ·rw [if_neg c7, if_pos (by omega)] at a1
       split at a1 <;> omega
  ·cases e
 ·cases h
theorem widthsGo_T {d : List tDecl} : ∀ {ys : List tTNode} {wide : List Int} {used : List Bool} {r : List Int × List Bool}, WOk wide -> widthsGo d ys wide used = some r -> NodesT d ys wide.length
 | [], wide, used, r, hw, h => trivial
 | x :: ys, wide, used, r, hw, h => by
  rw [widthsGo] at h
  cases hs : stepW d x wide with
  | none => rw [hs] at h; cases h
  | some w =>
   rw [hs] at h
   have := widthsGo_T (hw.app (stepW_ok hs)) h
   rw [List.length_append, List.length_singleton] at this
   exact ⟨stepW_T hw hs, this⟩
def nbI (op : Int) : Int := if op = 3 then 0 else if op = 4 then 2 else 1
theorem numbersOf_ev {op : Int} (R : Nat -> Int -> Prop) : Ev (fun n => Z12.c n op (R n)) ↔ Ev (fun n => R n (nbI op)) := by
 refine Ev.suc.trans ?_
 simp only [Z12.c, Z12.w, Ev.iteI, decide_eq_true_eq, Ev.s1 R, nbI]
 by_cases h : op = 3
 ·rw [if_pos h, if_pos h]
 ·rw [if_neg h, if_neg h]
  by_cases h4 : op = 4
  ·rw [if_pos h4, if_pos h4]
  ·rw [if_neg h4, if_neg h4]
theorem opWord_ev {op : Int} (h1 : 3 <= op) (h2 : op <= 9) (R : Nat -> List UInt8 -> Prop) : Ev (fun n => Z13.c n op (R n)) ↔ Ev (fun n => R n (wordOf op)) := by
 refine Ev.suc.trans ?_
 simp only [Z13.c, Z13.w]
 rw [wrap64 (by omega) (by omega)]
 have g : (0 : Int) <= op - 3 /\ op - 3 < ((([([99, 97, 116] : List UInt8), ([112, 97, 114, 116] : List UInt8), ([122, 101, 114, 111] : List UInt8), ([115, 105, 103, 110] : List UInt8), ([108, 101, 102, 116] : List UInt8), ([114, 105, 103, 104, 116] : List UInt8), ([114, 101, 112] : List UInt8)] : List (List UInt8)).length : Nat) : Int) := ⟨by omega, by simp; omega⟩
 simp only [grd_dec2 g]
 exact Ev.s1 R _
theorem tail_len {c : Nat} : ∀ {l : List (List UInt8)}, (∀ s ∈ l, s.length <= c) -> (Go.Lib.joinTail [32] l).length <= l.length * (c + 1)
 | [], _ => by simp [Go.Lib.joinTail]
 | s :: l, h => by
  have h1 := tail_len (c := c) fun z hz => h z (List.mem_cons_of_mem s hz)
  have h2 := h s List.mem_cons_self
  simp only [Go.Lib.joinTail, List.map_cons, List.flatten_cons, List.length_append, List.length_cons, List.length_nil] at h1 ⊢
  rw [Nat.add_mul]; omega
theorem tail_app (a b : List (List UInt8)) : Go.Lib.joinTail [32] (a ++ b) = Go.Lib.joinTail [32] a ++ Go.Lib.joinTail [32] b := by
 simp [Go.Lib.joinTail]
def lensS (l : List (List UInt8)) : Nat := (l.map List.length).sum
theorem tail_ge : ∀ (l : List (List UInt8)), lensS l <= (Go.Lib.joinTail [32] l).length
 | [] => by simp [lensS]
 | s :: l => by
  have := tail_ge l
  simp only [lensS, Go.Lib.joinTail, List.map_cons, List.flatten_cons, List.length_append, List.sum_cons, List.length_cons, List.length_nil] at this ⊢
  omega
theorem wordOf_len (op : Int) : (wordOf op).length <= 5 := by
 unfold wordOf
 generalize (op - 3).toNat = k
 match k with
 | 0 | 1 | 2 | 3 | 4 | 5 | 6 => decide
 | k + 7 =>
  simp only [rd, wordsL, List.getD_cons_succ, List.getD_nil]
  exact Nat.zero_le _
theorem joinW_ev {x : List UInt8} {r : List (List UInt8)} {c : Nat} (hx : x.length <= 10) (hr : r.length <= 5000) (hs : ∀ s ∈ r, s.length <= c) (hc : c <= 2000000) (R : Nat -> List UInt8 -> Prop) :
  Ev (fun n => Z66.c n (x :: r) [32] (R n)) ↔ Ev (fun n => R n (x ++ Go.Lib.joinTail [32] r)) := by
 have ht := tail_len hs
 have hm : r.length * (c + 1) <= 5000 * 2000001 := Nat.mul_le_mul hr (by omega)
 refine Ev.suc.trans ?_
 simp only [Z66.c, Z66.w, Go.Lib.join_cons]
 rw [show (decide ((x :: r).length <= 1099511627776) && decide ((x ++ Go.Lib.joinTail [32] r).length <= 1099511627776)) = true from by simp; omega]
 exact Ev.s1 R _
theorem text_ev {d : List tDecl} {x : tTNode} {m : Int} {ks : List (List UInt8)} (h : NodeT d x m) (hw : Wd x.2.2.2.2.2.1) (hl : ks.length <= 4096) (hk : ∀ s ∈ ks, s.length <= 20000) (R : Nat -> List UInt8 -> Prop) :
  Ev (fun n => Z3.c n x d ks (R n)) ↔ Ev (fun n => R n (txtN d x ks)) := by
 refine Ev.suc.trans ?_
 simp only [Z3.c, Z3.w, Ev.iteI, decide_eq_true_eq]
 rcases h.2 with ⟨h1, h2, h3, h4⟩ | ⟨h1, h2⟩ | ⟨⟨h1, h2⟩, h3, h4⟩
 ·have g : (0 : Int) <= x.2.1 /\ x.2.1 < (d.length : Int) := ⟨h3, by omega⟩
  rw [if_pos h1]
  simp only [grd_dec2 g]
  rw [Ev.s1 R, txtN, if_pos h1]
 ·rw [if_neg (by omega), if_pos h1, writeI_ev hw, Ev.s1 R, txtN, if_neg (by omega), if_pos h1]
 ·have hwl := wordOf_len x.1
  have key : ∀ (r : List (List UInt8)), r = numsOf x ++ ks -> r.length <= 5000 -> (∀ s ∈ r, s.length <= 2000000) -> ∀ {P : Nat -> Prop}, (Ev P ↔ Ev (fun n => Z66.c n (wordOf x.1 :: r) [32] (fun r17 => grd (decide (([40] : List UInt8).length + r17.length <= 9223372036854775807)) (grd (decide ((([40] : List UInt8) ++ r17).length + ([41] : List UInt8).length <= 9223372036854775807)) (R (n + 1) ((([40] : List UInt8) ++ r17) ++ ([41] : List UInt8))))))) ->
    (Ev P ↔ Ev (fun n => R n (txtN d x ks))) := fun r hr h5 hs P hP => by
   have ht := tail_len hs
   have hm : r.length * (2000000 + 1) <= 5000 * 2000001 := Nat.mul_le_mul h5 (by omega)
   refine hP.trans ?_
   rw [joinW_ev (by omega) h5 hs (by omega)]
   have g1 : ([40] : List UInt8).length + (wordOf x.1 ++ Go.Lib.joinTail [32] r).length <= 9223372036854775807 := by simp; omega
   have g2 : (([40] : List UInt8) ++ (wordOf x.1 ++ Go.Lib.joinTail [32] r)).length + ([41] : List UInt8).length <= 9223372036854775807 := by simp; omega
   simp only [grd_dec g1, grd_dec g2]
   rw [Ev.s1 R, txtN, if_neg (by omega), if_neg (by omega), hr]
  rw [if_neg (by omega), if_neg (by omega), opWord_ev h1 h2, numbersOf_ev]
  simp only [Ev.iteI, decide_eq_true_eq]
  by_cases c3 : x.1 = 3
  ·have e : nbI x.1 = 0 := by rw [nbI, if_pos c3]
   have en : numsOf x = [] := by rw [numsOf, if_pos c3]
   rw [e, if_neg (by decide), numbersOf_ev, e]
   simp only [Ev.iteI, decide_eq_true_eq]
   rw [if_neg (by decide)]
   have g : ([wordOf x.1] : List (List UInt8)).length + ks.length <= 4139337892803 := by simp; omega
   simp only [grd_dec g]
   refine key ks (by rw [en]; rfl) (by omega) (fun s hs => by have := hk s hs; omega) ?_
   exact Iff.rfl
  ·obtain ⟨a1, a2⟩ := h3 c3
   have hA := itoa_len a1 (show x.2.2.1 <= 1000000 by omega)
   by_cases c4 : x.1 = 4
   ·obtain ⟨b1, b2⟩ := h4 c4
    have hB := itoa_len b1 (show x.2.2.2.1 <= 1000000 by omega)
    have e : nbI x.1 = 2 := by rw [nbI, if_neg c3, if_pos c4]
    have en : numsOf x = [Go.Lib.itoa x.2.2.1, Go.Lib.itoa x.2.2.2.1] := by rw [numsOf, if_neg c3, if_pos c4]
    rw [e, if_pos (by decide), fmt_ev a1 (by omega)]
    have g : ([wordOf x.1] : List (List UInt8)).length + ([Go.Lib.itoa x.2.2.1] : List (List UInt8)).length <= 4139337892803 := by simp
    simp only [grd_dec g]
    rw [numbersOf_ev, e]
    simp only [Ev.iteI, decide_eq_true_eq]
    rw [if_pos (by decide), fmt_ev b1 (by omega)]
    have g2 : (([wordOf x.1] : List (List UInt8)) ++ ([Go.Lib.itoa x.2.2.1] : List (List UInt8))).length + ([Go.Lib.itoa x.2.2.2.1] : List (List UInt8)).length <= 4139337892803 := by simp
    have g3 : ((([wordOf x.1] : List (List UInt8)) ++ ([Go.Lib.itoa x.2.2.1] : List (List UInt8))) ++ ([Go.Lib.itoa x.2.2.2.1] : List (List UInt8))).length + ks.length <= 4139337892803 := by simp; omega
    simp only [grd_dec g2, grd_dec g3]
    refine key ([Go.Lib.itoa x.2.2.1, Go.Lib.itoa x.2.2.2.1] ++ ks) (by rw [en]) (by simp; omega) (fun s hs => ?_) ?_
    ·simp only [List.cons_append, List.nil_append, List.mem_cons] at hs
     rcases hs with rfl | rfl | hs
     ·omega
     ·omega
     ·have := hk s hs; omega
    ·exact Iff.rfl
   ·have e : nbI x.1 = 1 := by rw [nbI, if_neg c3, if_neg c4]
    have en : numsOf x = [Go.Lib.itoa x.2.2.1] := by rw [numsOf, if_neg c3, if_neg c4]
    rw [e, if_pos (by decide), fmt_ev a1 (by omega)]
    have g : ([wordOf x.1] : List (List UInt8)).length + ([Go.Lib.itoa x.2.2.1] : List (List UInt8)).length <= 4139337892803 := by simp
    simp only [grd_dec g]
    rw [numbersOf_ev, e]
    simp only [Ev.iteI, decide_eq_true_eq]
    rw [if_neg (by decide)]
    have g3 : (([wordOf x.1] : List (List UInt8)) ++ ([Go.Lib.itoa x.2.2.1] : List (List UInt8))).length + ks.length <= 4139337892803 := by simp; omega
    simp only [grd_dec g3]
    refine key ([Go.Lib.itoa x.2.2.1] ++ ks) (by rw [en]) (by simp; omega) (fun s hs => ?_) ?_
    ·simp only [List.cons_append, List.nil_append, List.mem_cons] at hs
     rcases hs with rfl | hs
     ·omega
     ·have := hk s hs; omega
    ·exact Iff.rfl
end Go.Vsi
end

section
set_option linter.unusedVariables false
set_option linter.unusedSimpArgs false
set_option synthInstance.maxSize 4096
namespace Go.Vsi
def kidsOf (acc : List (List UInt8)) (ks : List Int) : List (List UInt8) := ks.map fun k => rd acc k.toNat
def texts (d : List tDecl) : List tTNode -> List (List UInt8) -> List (List UInt8)
 | [], acc => acc
 | x :: r, acc => texts d r (acc ++ [txtN d x (kidsOf acc x.2.2.2.2.2.2)])
def shortGo (d : List tDecl) : List tTNode -> List (List UInt8) -> Bool
 | [], _ => true
 | x :: r, acc => decide ((txtN d x (kidsOf acc x.2.2.2.2.2.2)).length <= 20000) && shortGo d r (acc ++ [txtN d x (kidsOf acc x.2.2.2.2.2.2)])
theorem texts_len {d : List tDecl} : ∀ {ys : List tTNode} {acc : List (List UInt8)}, (texts d ys acc).length = acc.length + ys.length
 | [], acc => rfl
 | x :: ys, acc => by rw [texts, texts_len, List.length_append, List.length_singleton, List.length_cons]; omega
theorem kids_short {acc : List (List UInt8)} {ks : List Int} (ha : ∀ s ∈ acc, s.length <= 20000) (hk : kidsIn acc.length ks = true) : ∀ s ∈ kidsOf acc ks, s.length <= 20000 := fun s hs => by
 obtain ⟨k, hk', rfl⟩ := List.mem_map.1 hs
 rw [kidsIn, List.all_eq_true] at hk
 have := hk k hk'
 rw [decide_eq_true_eq] at this
 refine ha _ ?_
 rw [rd, List.getD_eq_getElem?_getD, List.getElem?_eq_getElem (show k.toNat < acc.length by omega)]
 exact List.getElem_mem _
theorem lens_le : ∀ {l : List (List UInt8)}, (∀ s ∈ l, s.length <= 20000) -> lensS l <= 20000 * l.length
 | [], _ => by simp [lensS]
 | s :: l, h => by
  have h1 := lens_le fun z hz => h z (List.mem_cons_of_mem s hz)
  have h2 := h s List.mem_cons_self
  simp only [lensS, List.map_cons, List.sum_cons, List.length_cons] at h1 ⊢
  omega
theorem kidsI_lp {d : List tDecl} {i N i' : Int} {x : tTNode} {z acc : List (List UInt8)} {t : List tTNode} {ks : List Int} (hl : ks.length <= 4096) (hz : ∀ k : Nat, k < acc.length -> rd z k = rd acc k) (hzl : acc.length <= z.length) (ha : ∀ s ∈ acc, s.length <= 20000) :
  ∀ (ys : List Int) (j : Int) (s : Nat) (pre : List (List UInt8)), ks.drop j.toNat = ys -> 0 <= j -> (pre.length : Int) = j -> s <= 20000 * pre.length -> kidsIn acc.length ys = true ->
  ∀ Kx : Nat -> List tDecl -> Int -> tTNode -> Int -> Int -> Int -> List (List UInt8) -> List (List UInt8) -> List tTNode -> Prop,
  (Ev (fun n => Z7.l10 n d i x N i' ks ks.length z t s j (pre ++ List.replicate ys.length []) (Kx n)) ↔ Ev (fun n => Kx n d i x ((s + lensS (kidsOf acc ys) : Nat) : Int) N i' z (pre ++ kidsOf acc ys) t))
 | [], j, s, pre, h, h0, hp, hs, hk, Kx => by
  have := drop_nil h h0
  refine Ev.suc.trans ?_
  simp only [Z7.l10, Z7.l10.b]
  rw [Ev.iteI, if_neg (by simp; omega)]
  exact (Ev.suc (P := fun n => Kx n d i x ((s : Nat) : Int) N i' z (pre ++ []) t)).symm
 | y :: ys, j, s, pre, h, h0, hp, hs, hk, Kx => by
  obtain ⟨e1, e2, e3⟩ := drop_cons h h0
  rw [kidsIn_cons] at hk
  obtain ⟨⟨k1, k2⟩, k3⟩ := hk
  have hzy := hz y.toNat (by omega)
  have hy : (rd acc y.toNat).length <= 20000 := by
   refine ha _ ?_
   rw [rd, List.getD_eq_getElem?_getD, List.getElem?_eq_getElem (show y.toNat < acc.length by omega)]
   exact List.getElem_mem _
  have hset : List.set (pre ++ List.replicate (y :: ys).length []) j.toNat (rd acc y.toNat) = (pre ++ [rd acc y.toNat]) ++ List.replicate ys.length [] := by
   rw [List.length_cons, List.replicate_succ, List.set_append_right _ _ (by omega), show j.toNat - pre.length = 0 from by omega, List.set_cons_zero, List.append_assoc]; rfl
  have hle : pre.length <= 4096 := by omega
  have ih := kidsI_lp hl hz hzl ha (d := d) (i := i) (N := N) (i' := i') (x := x) (t := t) ys (j + 1) (s + (rd acc y.toNat).length) (pre ++ [rd acc y.toNat]) e3 (by omega) (by simp; omega) (by simp; omega) k3 (fun n => Kx (n + 1))
  refine Ev.suc.trans ?_
  simp only [Z7.l10, Z7.l10.b, e2, hzy, hset]
  rw [Ev.iteI, if_pos (by simp; omega)]
  have g1 : 0 <= j /\ j < (ks.length : Int) := ⟨h0, e1⟩
  have g2 : 0 <= y /\ y < (z.length : Int) := ⟨k1, by omega⟩
  have g3 : 0 <= j /\ j < ((pre ++ List.replicate (y :: ys).length ([] : List UInt8)).length : Int) := ⟨h0, by simp; omega⟩
  simp only [grd_dec2 g1, grd_dec2 g2, grd_dec2 g3]
  rw [wrap64 (x := (s : Int) + ((rd acc y.toNat).length : Int)) (by omega) (by omega), wrap64 (x := j + 1) (by omega) (by omega)]
  refine ih.trans ?_
  simp only [kidsOf, List.map_cons, lensS, List.sum_cons, List.append_assoc, List.singleton_append, Nat.add_assoc]
  exact (Ev.suc (P := fun n => Kx n d i x _ N i' z _ t)).symm
theorem textsI_lp {d : List tDecl} {t : List tTNode} (ht : t.length <= 400) : ∀ (ys : List tTNode) (acc : List (List UInt8)), t.drop acc.length = ys -> acc.length + ys.length = t.length -> (∀ x ∈ ys, Wd x.2.2.2.2.2.1) -> (∀ s ∈ acc, s.length <= 20000) -> NodesT d ys acc.length ->
  ∀ (Kx : Nat -> List (List UInt8) -> Prop) (Kr : Nat -> List UInt8 -> Prop),
  (Ev (fun n => Z7.l5 n d t.length acc.length (acc ++ List.replicate ys.length []) t (Kx n) (Kr n)) ↔ if shortGo d ys acc = true then Ev (fun n => Kx n (texts d ys acc)) else Ev (fun n => Kr n []))
 | [], acc, h, hl, hw, ha, hn, Kx, Kr => by
  rw [List.length_nil, Nat.add_zero] at hl
  refine Ev.suc.trans ?_
  simp only [Z7.l5, Z7.l5.b]
  rw [Ev.iteI, if_neg (by simp; omega), if_pos (by rfl), texts, List.length_nil, List.replicate_zero, List.append_nil, Ev.s1 Kx]
 | x :: ys, acc, h, hl, hw, ha, hn, Kx, Kr => by
  obtain ⟨e1, e2, e3⟩ := drop_cons (x := (acc.length : Int)) (by simpa using h) (by omega)
  rw [Int.toNat_natCast] at e2
  rw [show ((acc.length : Int) + 1).toNat = acc.length + 1 from by omega] at e3
  rw [List.length_cons] at hl
  obtain ⟨n1, n2⟩ := hn
  have hk := n1.1.1
  have hkl := n1.1.2
  have hks := kids_short ha hk
  have hkn : (kidsOf acc x.2.2.2.2.2.2).length <= 4096 := by rw [kidsOf, List.length_map]; exact hkl
  have hzl : acc.length <= (acc ++ List.replicate (x :: ys).length ([] : List UInt8)).length := by simp
  have hz : ∀ k : Nat, k < acc.length -> rd (acc ++ List.replicate (x :: ys).length ([] : List UInt8)) k = rd acc k := fun k hk => rd_app hk
  have lp := kidsI_lp hkl hz hzl ha (d := d) (i := (acc.length : Int)) (N := (t.length : Int)) (i' := (acc.length : Int)) (x := x) (t := t) x.2.2.2.2.2.2 0 0 [] rfl (by omega) rfl (by omega) hk
  have hset : ∀ r : List UInt8, List.set (acc ++ List.replicate (x :: ys).length ([] : List UInt8)) acc.length r = (acc ++ [r]) ++ List.replicate ys.length [] := fun r => by
   rw [List.length_cons, List.replicate_succ, List.set_append_right _ _ (Nat.le_refl _), Nat.sub_self, List.set_cons_zero, List.append_assoc]; rfl
  have hrd : ∀ r : List UInt8, rd ((acc ++ [r]) ++ List.replicate ys.length ([] : List UInt8)) acc.length = r := fun r => by
   rw [rd_app (by simp), rd, List.getD_eq_getElem?_getD, List.getElem?_append_right (Nat.le_refl _), Nat.sub_self]; rfl
  have hlen : lensS (kidsOf acc x.2.2.2.2.2.2) <= (txtN d x (kidsOf acc x.2.2.2.2.2.2)).length \/ lensS (kidsOf acc x.2.2.2.2.2.2) = 0 := by
   rcases n1.2 with ⟨_, h2, _⟩ | ⟨_, h2⟩ | ⟨⟨h1, _⟩, _⟩
   ·right; rw [kidsOf, List.eq_nil_of_length_eq_zero h2]; rfl
   ·right; rw [kidsOf, List.eq_nil_of_length_eq_zero h2]; rfl
   ·left
    have := tail_ge (kidsOf acc x.2.2.2.2.2.2)
    rw [txtN, if_neg (by omega), if_neg (by omega), tail_app]
    simp only [List.length_append, List.length_cons, List.length_nil]
    omega
  have hb := lens_le hks
  obtain ⟨T, eT⟩ : ∃ T, T = txtN d x (kidsOf acc x.2.2.2.2.2.2) := ⟨_, rfl⟩
  refine Ev.suc.trans ?_
  simp only [Z7.l5, Z7.l5.b, Int.toNat_natCast, e2]
  rw [Ev.iteI, if_pos (by simp; omega)]
  have g1 : (0 : Int) <= (acc.length : Int) /\ (acc.length : Int) < (t.length : Int) := ⟨by omega, by omega⟩
  have g2 : (0 : Int) <= (x.2.2.2.2.2.2.length : Int) /\ (x.2.2.2.2.2.2.length : Int) <= 4139337892803 := ⟨by omega, by omega⟩
  simp only [grd_dec2 g1, decide_true, Bool.and_true, grd_dec2 g2]
  show Ev (fun n => Z7.l10 n d acc.length x t.length acc.length x.2.2.2.2.2.2 x.2.2.2.2.2.2.length (acc ++ List.replicate (x :: ys).length []) t 0 0 (List.replicate x.2.2.2.2.2.2.length []) _) ↔ _
  refine (lp _).trans ?_
  rw [Nat.zero_add, List.nil_append, Ev.iteI]
  simp only [Int.toNat_natCast, hset, hrd]
  rw [shortGo, <- eT]
  rw [<- eT] at hlen
  by_cases hT : T.length <= 20000
  ·rw [if_neg (by simp; omega), text_ev n1 (hw x List.mem_cons_self) hkn hks, <- eT]
   have g3 : (0 : Int) <= (acc.length : Int) /\ (acc.length : Int) < ((acc ++ List.replicate (x :: ys).length ([] : List UInt8)).length : Int) := ⟨by omega, by simp; omega⟩
   have g4 : (0 : Int) <= (acc.length : Int) /\ (acc.length : Int) < (((acc ++ [T]) ++ List.replicate ys.length ([] : List UInt8)).length : Int) := ⟨by omega, by simp; omega⟩
   simp only [grd_dec2 g3, grd_dec2 g4]
   rw [Ev.iteI, if_neg (by simp; omega), wrap64 (x := (acc.length : Int) + 1) (by omega) (by omega)]
   have ih := textsI_lp ht ys (acc ++ [T]) (by simpa using e3) (by simp; omega) (fun y hy => hw y (List.mem_cons_of_mem _ hy)) (fun s hs => by
    rcases List.mem_append.1 hs with hs | hs
    ·exact ha s hs
    ·rw [List.mem_singleton.1 hs]; exact hT) (by rw [List.length_append, List.length_singleton]; exact n2) (fun n => Kx (n + 1)) (fun n => Kr (n + 1))
   rw [List.length_append, List.length_singleton] at ih
   refine ih.trans ?_
   rw [decide_eq_true hT, Bool.true_and, texts, <- eT, Ev.s1 Kx, Ev.s1 Kr]
  ·rw [decide_eq_false hT, Bool.false_and, if_neg (show ¬ (false = true) by decide)]
   by_cases hs : lensS (kidsOf acc x.2.2.2.2.2.2) > 20000
   ·rw [if_pos (by simp; omega)]
    exact Ev.s1 Kr _
   ·rw [if_neg (by simp; omega), text_ev n1 (hw x List.mem_cons_self) hkn hks, <- eT]
    have g3 : (0 : Int) <= (acc.length : Int) /\ (acc.length : Int) < ((acc ++ List.replicate (x :: ys).length ([] : List UInt8)).length : Int) := ⟨by omega, by simp; omega⟩
    have g4 : (0 : Int) <= (acc.length : Int) /\ (acc.length : Int) < (((acc ++ [T]) ++ List.replicate ys.length ([] : List UInt8)).length : Int) := ⟨by omega, by simp; omega⟩
    simp only [grd_dec2 g3, grd_dec2 g4]
    rw [Ev.iteI, if_pos (by simp; omega)]
    exact Ev.s1 Kr _
def writeOf (d : List tDecl) (t : List tTNode) : List UInt8 :=
 if widthOf d t < 0 then [] else if shortGo d t [] = true then rd (texts d t []) (t.length - 1) else []
theorem widthOf_T {d : List tDecl} {t : List tTNode} (h : ¬ widthOf d t < 0) : declsOk d = true /\ NodesT d t 0 /\ 1 <= t.length /\ t.length <= 400 /\ ∃ r, widthsGo d t [] (List.replicate t.length false) = some r /\ (r.2.take (t.length - 1)).all id = true := by
 rw [widthOf] at h
 split at h
 ·rename_i hd
  rw [widthI] at h
  split at h
  ·rename_i hw
   have hw' := hw
   unfold widthsI at hw
   split at hw
   ·rename_i hl
    cases hg : widthsGo d t [] (List.replicate t.length false) with
    | none => rw [hg] at hw; cases hw
    | some r =>
     rw [hg] at hw
     exact ⟨hd, widthsGo_T (wide := []) (fun w hw => by cases hw) hg, hl.1, hl.2, r, rfl, hw⟩
   ·cases hw
  ·exact absurd (by decide) h
 ·exact absurd (by decide) h
theorem writeTI_ev {d : List tDecl} {t : List tTNode} (hd : d.length <= 1099511627776) (hy : ∀ x ∈ t, Wd x.2.2.2.2.2.1) (R : Nat -> List UInt8 -> Prop) :
  Ev (fun n => Z7.c n d t (R n)) ↔ Ev (fun n => R n (writeOf d t)) := by
 refine Ev.suc.trans ?_
 simp only [Z7.c, Z7.w, widthOf_ev hd, Ev.iteI, decide_eq_true_eq, writeOf]
 by_cases h : widthOf d t < 0
 ·rw [if_pos h, if_pos h, Ev.s1 R]
 ·rw [if_neg h, if_neg h]
  obtain ⟨h1, h2, h3, h4, _⟩ := widthOf_T h
  have g2 : (0 : Int) <= (t.length : Int) /\ (t.length : Int) <= 4139337892803 := ⟨by omega, by omega⟩
  simp only [decide_true, Bool.and_true, grd_dec2 g2, Int.toNat_natCast]
  have lp := textsI_lp (d := d) h4 t [] rfl (by simp) hy (fun s hs => by cases hs) h2 (fun n y146 => grd (decide (0 <= IntKind.wrap .i64 ((y146.length : Int) - 1)) && decide (IntKind.wrap .i64 ((y146.length : Int) - 1) < (y146.length : Int))) (R (n + 1) (rd y146 (Int.toNat (IntKind.wrap .i64 ((y146.length : Int) - 1)))))) (fun n => R (n + 1))
  refine lp.trans ?_
  have hl : (texts d t []).length = t.length := by rw [texts_len]; simp
  by_cases hs : shortGo d t [] = true
  ·rw [if_pos hs, if_pos hs, hl, wrap64 (x := (t.length : Int) - 1) (by omega) (by omega)]
   have g3 : (0 : Int) <= (t.length : Int) - 1 /\ (t.length : Int) - 1 < (t.length : Int) := ⟨by omega, by omega⟩
   simp only [grd_dec2 g3]
   rw [show ((t.length : Int) - 1).toNat = t.length - 1 from by omega, Ev.s1 R]
  ·rw [if_neg hs, if_neg hs, Ev.s1 R]
end Go.Vsi
end

section
set_option linter.unusedVariables false
set_option linter.unusedSimpArgs false
set_option synthInstance.maxSize 4096
namespace Go.Vsi
def sz1 (s : List UInt8) : Nat := min s.length 20001
def szI (s : List UInt8) : Int := (sz1 s : Int)
def addC : List (List UInt8) -> Nat
 | [] => 0
 | s :: l => 1 + sz1 s + addC l
theorem tail_jl : ∀ {s : List UInt8} {l : List (List UInt8)}, (Go.Lib.joinTail [32] (s :: l)).length = 1 + s.length + (Go.Lib.joinTail [32] l).length := by
 intro s l
 simp only [Go.Lib.joinTail, List.map_cons, List.flatten_cons, List.length_append, List.length_cons, List.length_nil]
theorem cap_add : ∀ (l : List (List UInt8)) (a b : Nat), (a = b \/ (20001 <= a /\ 20001 <= b)) -> min (a + addC l) 20001 = min (b + (Go.Lib.joinTail [32] l).length) 20001
 | [], a, b, h => by
  have : (Go.Lib.joinTail [32] ([] : List (List UInt8))).length = 0 := rfl
  rw [this, addC]
  omega
 | s :: l, a, b, h => by
  have ih := cap_add l (a + 1 + sz1 s) (b + 1 + s.length) (by unfold sz1; omega)
  rw [tail_jl, addC, show a + (1 + sz1 s + addC l) = a + 1 + sz1 s + addC l from by omega, ih]
  omega
theorem addC_le : ∀ (l : List (List UInt8)), addC l <= 20002 * l.length
 | [] => by simp [addC]
 | s :: l => by
  have := addC_le l
  rw [addC, List.length_cons]
  unfold sz1; omega
theorem parts_ev {op : Int} (h1 : 3 <= op) (R : Nat -> Int -> Prop) : Ev (fun n => Z59.c n op (R n)) ↔ Ev (fun n => R n (nbI op)) := by
 refine Ev.suc.trans ?_
 simp only [Z59.c, Z59.w, Ev.iteI, decide_eq_true_eq, Ev.s1 R, nbI]
 by_cases h : op = 4
 ·rw [if_pos h, if_neg (show ¬ op = 3 by omega), if_pos h]
 ·rw [if_neg h]
  by_cases h3 : op = 3
  ·rw [if_neg (by omega), if_pos h3]
  ·rw [if_pos (by omega), if_neg h3, if_neg h]
theorem word_ev {op : Int} (h1 : 3 <= op) (h2 : op <= 9) (R : Nat -> List UInt8 -> Prop) : Ev (fun n => Z64.c n op (R n)) ↔ Ev (fun n => R n (wordOf op)) := by
 refine Ev.suc.trans ?_
 simp only [Z64.c, Z64.w]
 have g : (0 : Int) <= op /\ op < ((([([] : List UInt8), ([] : List UInt8), ([] : List UInt8), ([99, 97, 116] : List UInt8), ([112, 97, 114, 116] : List UInt8), ([122, 101, 114, 111] : List UInt8), ([115, 105, 103, 110] : List UInt8), ([108, 101, 102, 116] : List UInt8), ([114, 105, 103, 104, 116] : List UInt8), ([114, 101, 112] : List UInt8)] : List (List UInt8)).length : Nat) : Int) := ⟨by omega, by simp; omega⟩
 simp only [grd_dec2 g]
 have e : rd ([([] : List UInt8), ([] : List UInt8), ([] : List UInt8), ([99, 97, 116] : List UInt8), ([112, 97, 114, 116] : List UInt8), ([122, 101, 114, 111] : List UInt8), ([115, 105, 103, 110] : List UInt8), ([108, 101, 102, 116] : List UInt8), ([114, 105, 103, 104, 116] : List UInt8), ([114, 101, 112] : List UInt8)] : List (List UInt8)) op.toNat = wordOf op := by
  rw [wordOf]
  obtain ⟨k, hk⟩ : ∃ k : Nat, op.toNat = k + 3 := ⟨op.toNat - 3, by omega⟩
  rw [hk, show (op - 3).toNat = k from by omega]; rfl
 rw [e]
 exact Ev.s1 R _
theorem rd_map {acc : List (List UInt8)} {k : Nat} (h : k < acc.length) : rd (acc.map szI) k = szI (rd acc k) := by
 rw [rd, rd, List.getD_eq_getElem?_getD, List.getD_eq_getElem?_getD, List.getElem?_map, List.getElem?_eq_getElem h]; rfl
theorem sizesK_lp {d : List tDecl} {i : Int} {acc : List (List UInt8)} {t : List tTNode} {x42 x43 x44 x45 x46 : Int} {x47 ks : List Int} (hl : ks.length <= 4096) :
  ∀ (ys : List Int) (j : Int) (s : Nat), ks.drop j.toNat = ys -> 0 <= j -> s + 20002 * ys.length <= 1000000000 -> kidsIn acc.length ys = true ->
  ∀ Kx : Nat -> List tDecl -> Int -> Int -> List Int -> List tTNode -> Prop,
  (Ev (fun n => Z60.l18 n d i (acc.map szI) t x42 x43 x44 x45 x46 x47 ks s j (Kx n)) ↔ Ev (fun n => Kx n d i ((s + addC (kidsOf acc ys) : Nat) : Int) (acc.map szI) t))
 | [], j, s, h, h0, hs, hk, Kx => by
  have := drop_nil h h0
  refine Ev.suc.trans ?_
  simp only [Z60.l18, Z60.l18.b]
  rw [Ev.iteI, if_neg (by simp; omega)]
  exact (Ev.suc (P := fun n => Kx n d i ((s : Nat) : Int) (acc.map szI) t)).symm
 | y :: ys, j, s, h, h0, hs, hk, Kx => by
  obtain ⟨e1, e2, e3⟩ := drop_cons h h0
  rw [kidsIn_cons] at hk
  obtain ⟨⟨k1, k2⟩, k3⟩ := hk
  rw [List.length_cons] at hs
  have hsz : sz1 (rd acc y.toNat) <= 20001 := by unfold sz1; omega
  have ih := sizesK_lp hl (d := d) (i := i) (t := t) (x42 := x42) (x43 := x43) (x44 := x44) (x45 := x45) (x46 := x46) (x47 := x47) ys (j + 1) (s + 1 + sz1 (rd acc y.toNat)) e3 (by omega) (by omega) k3 (fun n => Kx (n + 1))
  have hr : rd (acc.map szI) y.toNat = ((sz1 (rd acc y.toNat) : Nat) : Int) := rd_map (by omega)
  refine Ev.suc.trans ?_
  simp only [Z60.l18, Z60.l18.b, e2, hr]
  rw [Ev.iteI, if_pos (by simp; omega)]
  have g1 : 0 <= j /\ j < (ks.length : Int) := ⟨h0, e1⟩
  have g2 : 0 <= y /\ y < ((acc.map szI).length : Int) := ⟨k1, by rw [List.length_map]; omega⟩
  simp only [grd_dec2 g1, grd_dec2 g2]
  rw [wrap64 (x := (s : Int) + 1) (by omega) (by omega), wrap64 (x := (s : Int) + 1 + ((sz1 (rd acc y.toNat) : Nat) : Int)) (by omega) (by omega), wrap64 (x := j + 1) (by omega) (by omega)]
  refine ih.trans ?_
  rw [show s + addC (kidsOf acc (y :: ys)) = s + 1 + sz1 (rd acc y.toNat) + addC (kidsOf acc ys) from by simp only [kidsOf, List.map_cons, addC]; omega]
  exact (Ev.suc (P := fun n => Kx n d i _ (acc.map szI) t)).symm
theorem sizes_lp {d : List tDecl} {t : List tTNode} (ht : t.length <= 400) (hd : ∀ y ∈ d, y.1.length <= 100) : ∀ (ys : List tTNode) (acc : List (List UInt8)), t.drop acc.length = ys -> acc.length + ys.length = t.length -> (∀ x ∈ ys, Wd x.2.2.2.2.2.1) -> NodesT d ys acc.length ->
  ∀ Kx : Nat -> List Int -> Prop, (Ev (fun n => Z60.l3 n d acc.length (acc.map szI) t (Kx n)) ↔ Ev (fun n => Kx n ((texts d ys acc).map szI)))
 | [], acc, h, hl, hw, hn, Kx => by
  rw [List.length_nil, Nat.add_zero] at hl
  refine Ev.suc.trans ?_
  simp only [Z60.l3, Z60.l3.b]
  rw [Ev.iteI, if_neg (by simp; omega), texts, Ev.s1 Kx]
 | x :: ys, acc, h, hl, hw, hn, Kx => by
  obtain ⟨e1, e2, e3⟩ := drop_cons (x := (acc.length : Int)) (by simpa using h) (by omega)
  rw [Int.toNat_natCast] at e2
  rw [show ((acc.length : Int) + 1).toNat = acc.length + 1 from by omega] at e3
  rw [List.length_cons] at hl
  obtain ⟨n1, n2⟩ := hn
  have hk := n1.1.1
  have hkl := n1.1.2
  have hkn : (kidsOf acc x.2.2.2.2.2.2).length <= 4096 := by rw [kidsOf, List.length_map]; exact hkl
  obtain ⟨T, eT⟩ : ∃ T, T = txtN d x (kidsOf acc x.2.2.2.2.2.2) := ⟨_, rfl⟩
  have ih := sizes_lp ht hd ys (acc ++ [T]) (by simpa using e3) (by simp; omega) (fun y hy => hw y (List.mem_cons_of_mem _ hy)) (by rw [List.length_append, List.length_singleton]; exact n2) (fun n => Kx (n + 1))
  have fin : ∀ (b : Nat), b <= 3000000 -> min (b + addC (kidsOf acc x.2.2.2.2.2.2)) 20001 = min T.length 20001 ->
    (Ev (fun n => Z60.j10 (fun x115q x116q x117q x118q => Z60.l3 n x115q x116q x117q x118q (Kx (n + 1))) (Z60.l18 n) x.2.2.2.2.2.1 x.2.2.2.2.2.2 d acc.length (acc.map szI) t b) ↔ Ev (fun n => Kx n ((texts d (x :: ys) acc).map szI))) := fun b hb hm => by
   have hc := addC_le (kidsOf acc x.2.2.2.2.2.2)
   have lp := sizesK_lp (d := d) (i := (acc.length : Int)) (acc := acc) (t := t) (x42 := x.1) (x43 := x.2.1) (x44 := x.2.2.1) (x45 := x.2.2.2.1) (x46 := x.2.2.2.2.1) (x47 := x.2.2.2.2.2.1) hkl x.2.2.2.2.2.2 0 b rfl (by omega) (by omega) hk
   simp only [Z60.j10, Int.toNat_natCast, e2]
   refine (lp _).trans ?_
   have ez : (if (20001 : Int) < ((b + addC (kidsOf acc x.2.2.2.2.2.2) : Nat) : Int) then (20001 : Int) else ((b + addC (kidsOf acc x.2.2.2.2.2.2) : Nat) : Int)) = szI T := by
    unfold szI sz1
    rw [<- hm]
    split <;> omega
   rw [ez]
   have g : (acc.map szI).length + ([szI T] : List Int).length <= 7818749353073 := by simp; omega
   simp only [grd_dec g]
   rw [wrap64 (x := (acc.length : Int) + 1) (by omega) (by omega)]
   rw [List.length_append, List.length_singleton, List.map_append, List.map_singleton] at ih
   refine ih.trans ?_
   rw [texts, <- eT, Ev.s1 Kx]
  refine Ev.suc.trans ?_
  simp only [Z60.l3, Z60.l3.b, Int.toNat_natCast, e2]
  rw [Ev.iteI, if_pos (by simp; omega)]
  have g1 : (0 : Int) <= (acc.length : Int) /\ (acc.length : Int) < (t.length : Int) := ⟨by omega, by omega⟩
  simp only [grd_dec2 g1, Ev.iteI, decide_eq_true_eq]
  rcases n1.2 with ⟨h1, h2, h3, h4⟩ | ⟨h1, h2⟩ | ⟨⟨h1, h2⟩, h3, h4⟩
  ·have g : (0 : Int) <= x.2.1 /\ x.2.1 < (d.length : Int) := ⟨h3, by omega⟩
   have hdx := hd (rd d x.2.1.toNat) (by rw [rd, List.getD_eq_getElem?_getD, List.getElem?_eq_getElem (show x.2.1.toNat < d.length by omega)]; exact List.getElem_mem _)
   rw [if_pos h1]
   simp only [grd_dec2 g]
   refine fin _ (by omega) ?_
   rw [eT, txtN, if_pos h1, kidsOf, List.eq_nil_of_length_eq_zero h2]; rfl
  ·have hlw := wtx_len x.2.2.2.2.1 x.2.2.2.2.2.1
   rw [if_neg (by omega), if_pos h1, writeS_ev (hw x List.mem_cons_self)]
   refine fin _ (by omega) ?_
   rw [eT, txtN, if_neg (by omega), if_pos h1, kidsOf, List.eq_nil_of_length_eq_zero h2]; rfl
  ·have hwl := wordOf_len x.1
   have hT : T.length = 2 + (wordOf x.1).length + (Go.Lib.joinTail [32] (numsOf x)).length + (Go.Lib.joinTail [32] (kidsOf acc x.2.2.2.2.2.2)).length := by
    rw [eT, txtN, if_neg (by omega), if_neg (by omega), tail_app]
    simp only [List.length_append, List.length_cons, List.length_nil]
    omega
   have fin2 : ∀ b : Nat, b = 2 + (wordOf x.1).length + (Go.Lib.joinTail [32] (numsOf x)).length -> b <= 3000000 -> _ := fun b hb h5 => fin b h5 (by
    rw [hT, <- hb]
    exact cap_add _ _ _ (.inl rfl))
   rw [if_neg (by omega), if_neg (by omega), word_ev h1 h2, parts_ev h1]
   simp only [Ev.iteI, decide_eq_true_eq, Z60.j11, Int.toNat_natCast, e2]
   rw [wrap64 (x := 2 + ((wordOf x.1).length : Int)) (by omega) (by omega)]
   by_cases c3 : x.1 = 3
   ·have e : nbI x.1 = 0 := by rw [nbI, if_pos c3]
    have en : numsOf x = [] := by rw [numsOf, if_pos c3]
    rw [e, if_neg (by decide), parts_ev h1, e]
    simp only [Ev.iteI, decide_eq_true_eq]
    rw [if_neg (by decide)]
    exact fin2 (2 + (wordOf x.1).length) (by rw [en]; rfl) (by omega)
   ·obtain ⟨a1, a2⟩ := h3 c3
    have hA := itoa_len a1 (show x.2.2.1 <= 1000000 by omega)
    by_cases c4 : x.1 = 4
    ·obtain ⟨b1, b2⟩ := h4 c4
     have hB := itoa_len b1 (show x.2.2.2.1 <= 1000000 by omega)
     have e : nbI x.1 = 2 := by rw [nbI, if_neg c3, if_pos c4]
     have en : numsOf x = [Go.Lib.itoa x.2.2.1, Go.Lib.itoa x.2.2.2.1] := by rw [numsOf, if_neg c3, if_pos c4]
     rw [e, if_pos (by decide), dec_ev a1 (by omega), parts_ev h1, e]
     simp only [Ev.iteI, decide_eq_true_eq]
     rw [if_pos (by decide), dec_ev b1 (by omega), wrap64 (x := 2 + ((wordOf x.1).length : Int) + 1) (by omega) (by omega), wrap64 (x := 2 + ((wordOf x.1).length : Int) + 1 + ((Go.Lib.itoa x.2.2.1).length : Int)) (by omega) (by omega),
      wrap64 (x := 2 + ((wordOf x.1).length : Int) + 1 + ((Go.Lib.itoa x.2.2.1).length : Int) + 1) (by omega) (by omega), wrap64 (by omega) (by omega)]
     have := fin2 (2 + (wordOf x.1).length + 1 + (Go.Lib.itoa x.2.2.1).length + 1 + (Go.Lib.itoa x.2.2.2.1).length) (by rw [en, tail_jl, tail_jl]; show _ = _ + (1 + _ + (1 + _ + 0)); omega) (by omega)
     exact this
    ·have e : nbI x.1 = 1 := by rw [nbI, if_neg c3, if_neg c4]
     have en : numsOf x = [Go.Lib.itoa x.2.2.1] := by rw [numsOf, if_neg c3, if_neg c4]
     rw [e, if_pos (by decide), dec_ev a1 (by omega), parts_ev h1, e]
     simp only [Ev.iteI, decide_eq_true_eq]
     rw [if_neg (by decide), wrap64 (x := 2 + ((wordOf x.1).length : Int) + 1) (by omega) (by omega), wrap64 (by omega) (by omega)]
     have := fin2 (2 + (wordOf x.1).length + 1 + (Go.Lib.itoa x.2.2.1).length) (by rw [en, tail_jl]; show _ = _ + (1 + _ + 0); omega) (by omega)
     exact this
end Go.Vsi
end

section
set_option linter.unusedVariables false
set_option linter.unusedSimpArgs false
set_option synthInstance.maxSize 4096
namespace Go.Vsi
theorem texts_old {d : List tDecl} : ∀ {ys : List tTNode} {acc : List (List UInt8)} {j : Nat}, j < acc.length -> rd (texts d ys acc) j = rd acc j
 | [], acc, j, h => rfl
 | x :: ys, acc, j, h => by rw [texts, texts_old (by rw [List.length_append]; omega), rd_app h]
theorem kids_same {a b : List (List UInt8)} {m : Nat} {ks : List Int} (h : ∀ j, j < m -> rd a j = rd b j) (hk : kidsIn m ks = true) : kidsOf a ks = kidsOf b ks := by
 unfold kidsOf
 refine List.map_congr_left fun k hk' => ?_
 rw [kidsIn, List.all_eq_true] at hk
 have := hk k hk'
 rw [decide_eq_true_eq] at this
 exact h _ (by omega)
theorem texts_at {d : List tDecl} : ∀ {ys : List tTNode} {acc : List (List UInt8)}, NodesT d ys acc.length -> ∀ j, j < ys.length -> NodeT d (rd ys j) ((acc.length + j : Nat) : Int) /\ rd (texts d ys acc) (acc.length + j) = txtN d (rd ys j) (kidsOf (texts d ys acc) (rd ys j).2.2.2.2.2.2)
 | [], acc, hn, j, h => absurd h (Nat.not_lt_zero _)
 | x :: ys, acc, hn, 0, h => by
  obtain ⟨n1, n2⟩ := hn
  have e0 : rd (x :: ys) 0 = x := rfl
  rw [e0, Nat.add_zero, texts, texts_old (by simp)]
  refine ⟨n1, ?_⟩
  have e1 : rd (acc ++ [txtN d x (kidsOf acc x.2.2.2.2.2.2)]) acc.length = txtN d x (kidsOf acc x.2.2.2.2.2.2) := by
   rw [rd, List.getD_eq_getElem?_getD, List.getElem?_append_right (Nat.le_refl _), Nat.sub_self]; rfl
  rw [e1]
  congr 1
  refine kids_same (m := acc.length) (fun j hj => ?_) n1.1.1
  rw [texts_old (by simp; omega), rd_app hj]
 | x :: ys, acc, hn, j + 1, h => by
  obtain ⟨n1, n2⟩ := hn
  have := texts_at (ys := ys) (acc := acc ++ [txtN d x (kidsOf acc x.2.2.2.2.2.2)]) (by rw [List.length_append, List.length_singleton]; exact n2) j (by simpa using h)
  rw [List.length_append, List.length_singleton, Nat.add_assoc, Nat.add_comm 1 j] at this
  exact this
theorem kid_le {d : List tDecl} {x : tTNode} {m : Int} {T : List (List UInt8)} (h : NodeT d x m) {k : Int} (hk : k ∈ x.2.2.2.2.2.2) : (rd T k.toNat).length <= (txtN d x (kidsOf T x.2.2.2.2.2.2)).length := by
 have hm : rd T k.toNat ∈ kidsOf T x.2.2.2.2.2.2 := List.mem_map.2 ⟨k, hk, rfl⟩
 have h1 : ∀ {l : List (List UInt8)} {s : List UInt8}, s ∈ l -> s.length <= lensS l := by
  intro l
  induction l with
  | nil => intro s hs; cases hs
  | cons z l ih =>
   intro s hs
   rcases List.mem_cons.1 hs with rfl | hs
   ·simp [lensS]
   ·have := ih hs; simp only [lensS, List.map_cons, List.sum_cons] at this ⊢; omega
 have h2 := h1 hm
 have h3 := tail_ge (kidsOf T x.2.2.2.2.2.2)
 rcases h.2 with ⟨_, h4, _⟩ | ⟨_, h4⟩ | ⟨⟨h4, _⟩, _⟩
 ·rw [List.eq_nil_of_length_eq_zero h4] at hk; cases hk
 ·rw [List.eq_nil_of_length_eq_zero h4] at hk; cases hk
 ·rw [txtN, if_neg (by omega), if_neg (by omega), tail_app]
  simp only [List.length_append, List.length_cons, List.length_nil]
  omega
theorem kidsS_lp {d : List tDecl} {t : List tTNode} {T : List (List UInt8)} {x33 x34 x35 x36 x37 : Int} {x38 ks : List Int} (hl : ks.length <= 4096) :
  ∀ (ys : List Int) (j : Int) (s : List UInt8), ks.drop j.toNat = ys -> 0 <= j -> s.length + (Go.Lib.joinTail [32] (kidsOf T ys)).length <= 1000000000 ->
  (∀ k ∈ ys, 0 <= k /\ ∀ R : Nat -> List UInt8 -> Prop, Ev (fun n => Z61.c n d t k (R n)) ↔ Ev (fun n => R n (rd T k.toNat))) ->
  ∀ Kx : Nat -> List UInt8 -> Prop, (Ev (fun n => Z61.l13 n d t x33 x34 x35 x36 x37 x38 ks s j (Kx n)) ↔ Ev (fun n => Kx n (s ++ Go.Lib.joinTail [32] (kidsOf T ys))))
 | [], j, s, h, h0, hs, hk, Kx => by
  have := drop_nil h h0
  refine Ev.suc.trans ?_
  simp only [Z61.l13_s, Z61.l13.b]
  rw [Ev.iteI, if_neg (by simp; omega)]
  have : s ++ Go.Lib.joinTail [32] (kidsOf T []) = s := by
   show s ++ [] = s
   exact List.append_nil s
  rw [this, Ev.s1 Kx]
 | y :: ys, j, s, h, h0, hs, hk, Kx => by
  obtain ⟨e1, e2, e3⟩ := drop_cons h h0
  obtain ⟨k1, k2⟩ := hk y List.mem_cons_self
  have ec : kidsOf T (y :: ys) = rd T y.toNat :: kidsOf T ys := rfl
  rw [ec, tail_jl] at hs
  have ej : Go.Lib.joinTail [32] (rd T y.toNat :: kidsOf T ys) = ([32] ++ rd T y.toNat) ++ Go.Lib.joinTail [32] (kidsOf T ys) := by
   simp [Go.Lib.joinTail]
  have ih := kidsS_lp hl (d := d) (t := t) (T := T) (x33 := x33) (x34 := x34) (x35 := x35) (x36 := x36) (x37 := x37) (x38 := x38) ys (j + 1) ((s ++ [32]) ++ rd T y.toNat) e3 (by omega) (by simp; omega) (fun k hk' => hk k (List.mem_cons_of_mem _ hk')) (fun n => Kx (n + 1))
  refine Ev.suc.trans ?_
  simp only [Z61.l13_s, Z61.l13.b, e2]
  rw [Ev.iteI, if_pos (by simp; omega)]
  have g1 : s.length + ([32] : List UInt8).length <= 9223372036854775807 := by simp; omega
  have g2 : 0 <= j /\ j < (ks.length : Int) := ⟨h0, e1⟩
  simp only [grd_dec g1, grd_dec2 g2]
  rw [k2]
  have g3 : (s ++ ([32] : List UInt8)).length + (rd T y.toNat).length <= 9223372036854775807 := by simp; omega
  simp only [grd_dec g3]
  rw [wrap64 (x := j + 1) (by omega) (by omega)]
  refine ih.trans ?_
  rw [Ev.s1 Kx, ec, ej]
  simp only [List.append_assoc]
theorem l3Text_ev {d : List tDecl} {t : List tTNode} (ht : t.length <= 400) (hy : ∀ x ∈ t, Wd x.2.2.2.2.2.1) (hn : NodesT d t 0) : ∀ (f i : Nat), i < f -> i < t.length -> (rd (texts d t []) i).length <= 20000 -> ∀ R : Nat -> List UInt8 -> Prop,
  Ev (fun n => Z61.c n d t i (R n)) ↔ Ev (fun n => R n (rd (texts d t []) i))
 | 0, i, hf, hi, hs, R => by omega
 | f + 1, i, hf, hi, hs, R => by
  obtain ⟨n1, e1⟩ := texts_at (d := d) (ys := t) (acc := []) hn i hi
  simp only [List.length_nil, Nat.zero_add] at n1 e1
  obtain ⟨x, ex⟩ : ∃ x, x = rd t i := ⟨_, rfl⟩
  obtain ⟨T, eT⟩ : ∃ T, T = texts d t [] := ⟨_, rfl⟩
  have hw : Wd x.2.2.2.2.2.1 := by
   refine hy x ?_
   rw [ex, rd, List.getD_eq_getElem?_getD, List.getElem?_eq_getElem hi]; exact List.getElem_mem hi
  have hrec : ∀ k ∈ x.2.2.2.2.2.2, 0 <= k /\ ∀ R : Nat -> List UInt8 -> Prop, Ev (fun n => Z61.c n d t k (R n)) ↔ Ev (fun n => R n (rd T k.toNat)) := fun k hk => by
   have hk2 := n1.1.1
   rw [<- ex, kidsIn, List.all_eq_true] at hk2
   have := hk2 k hk
   rw [decide_eq_true_eq] at this
   refine ⟨this.1, fun R => ?_⟩
   have hle := kid_le (T := T) n1 (k := k) (by rw [<- ex]; exact hk)
   rw [eT, <- e1] at hle
   have := l3Text_ev ht hy hn f k.toNat (by omega) (by omega) (by omega) R
   rw [Int.toNat_of_nonneg (by omega)] at this
   rw [eT]; exact this
  rw [<- eT, <- ex] at e1
  rw [<- ex] at n1
  rw [<- eT] at hs ⊢
  rw [e1] at hs ⊢
  refine Ev.suc.trans ?_
  simp only [Z61.c_s, Z61.w, Int.toNat_natCast, <- ex]
  have g1 : (0 : Int) <= (i : Int) /\ (i : Int) < (t.length : Int) := ⟨by omega, by omega⟩
  simp only [grd_dec2 g1, Ev.iteI, decide_eq_true_eq]
  rcases n1.2 with ⟨h1, h2, h3, h4⟩ | ⟨h1, h2⟩ | ⟨⟨h1, h2⟩, h3, h4⟩
  ·have g : (0 : Int) <= x.2.1 /\ x.2.1 < (d.length : Int) := ⟨h3, by omega⟩
   rw [if_pos h1]
   simp only [grd_dec2 g]
   rw [Ev.s1 R, txtN, if_pos h1]
  ·rw [if_neg (by omega), if_pos h1, writeS_ev hw, Ev.s1 R, txtN, if_neg (by omega), if_pos h1]
  ·have hwl := wordOf_len x.1
   have hT : (txtN d x (kidsOf T x.2.2.2.2.2.2)) = (([40] ++ wordOf x.1 ++ Go.Lib.joinTail [32] (numsOf x)) ++ Go.Lib.joinTail [32] (kidsOf T x.2.2.2.2.2.2)) ++ [41] := by
    rw [txtN, if_neg (by omega), if_neg (by omega), tail_app]
    simp only [List.append_assoc]
   have hlen : (txtN d x (kidsOf T x.2.2.2.2.2.2)).length = 2 + (wordOf x.1).length + (Go.Lib.joinTail [32] (numsOf x)).length + (Go.Lib.joinTail [32] (kidsOf T x.2.2.2.2.2.2)).length := by
    rw [hT]
    simp only [List.length_append, List.length_cons, List.length_nil]
    omega
   have fin : ∀ s : List UInt8, s = [40] ++ wordOf x.1 ++ Go.Lib.joinTail [32] (numsOf x) -> (Ev (fun n => Z61.j0 (R (n + 1)) d t i (Z61.l13 n) s) ↔ Ev (fun n => R n (txtN d x (kidsOf T x.2.2.2.2.2.2)))) := fun s hse => by
    have hsl : s.length = 1 + (wordOf x.1).length + (Go.Lib.joinTail [32] (numsOf x)).length := by
     rw [hse]; simp only [List.length_append, List.length_cons, List.length_nil]
    have lp := kidsS_lp (d := d) (t := t) (T := T) (x33 := x.1) (x34 := x.2.1) (x35 := x.2.2.1) (x36 := x.2.2.2.1) (x37 := x.2.2.2.2.1) (x38 := x.2.2.2.2.2.1) n1.1.2 x.2.2.2.2.2.2 0 s rfl (by omega) (by omega) hrec
    simp only [Z61.j0, Int.toNat_natCast, <- ex]
    refine (lp _).trans ?_
    have g : (s ++ Go.Lib.joinTail [32] (kidsOf T x.2.2.2.2.2.2)).length + ([41] : List UInt8).length <= 9223372036854775807 := by simp; omega
    simp only [grd_dec g]
    rw [Ev.s1 R, hT, hse]
   rw [if_neg (by omega), if_neg (by omega), word_ev h1 h2]
   have g1 : ([40] : List UInt8).length + (wordOf x.1).length <= 9223372036854775807 := by simp; omega
   simp only [grd_dec g1]
   rw [parts_ev h1]
   simp only [Ev.iteI, decide_eq_true_eq, Z61.j1, Int.toNat_natCast, <- ex]
   by_cases c3 : x.1 = 3
   ·have e : nbI x.1 = 0 := by rw [nbI, if_pos c3]
    have en : numsOf x = [] := by rw [numsOf, if_pos c3]
    rw [e, if_neg (by decide), parts_ev h1, e]
    simp only [Ev.iteI, decide_eq_true_eq]
    rw [if_neg (by decide)]
    exact fin _ (by rw [en]; exact (List.append_nil _).symm)
   ·obtain ⟨a1, a2⟩ := h3 c3
    have hA := itoa_len a1 (show x.2.2.1 <= 1000000 by omega)
    have g2 : (([40] : List UInt8) ++ wordOf x.1).length + ([32] : List UInt8).length <= 9223372036854775807 := by simp; omega
    have g3 : ((([40] : List UInt8) ++ wordOf x.1) ++ ([32] : List UInt8)).length + (Go.Lib.itoa x.2.2.1).length <= 9223372036854775807 := by simp; omega
    by_cases c4 : x.1 = 4
    ·obtain ⟨b1, b2⟩ := h4 c4
     have hB := itoa_len b1 (show x.2.2.2.1 <= 1000000 by omega)
     have e : nbI x.1 = 2 := by rw [nbI, if_neg c3, if_pos c4]
     have en : numsOf x = [Go.Lib.itoa x.2.2.1, Go.Lib.itoa x.2.2.2.1] := by rw [numsOf, if_neg c3, if_pos c4]
     rw [e, if_pos (by decide)]
     simp only [grd_dec g2]
     rw [dec_ev a1 (by omega)]
     simp only [grd_dec g3]
     rw [parts_ev h1, e]
     simp only [Ev.iteI, decide_eq_true_eq]
     rw [if_pos (by decide)]
     have g4 : (((([40] : List UInt8) ++ wordOf x.1) ++ ([32] : List UInt8)) ++ Go.Lib.itoa x.2.2.1).length + ([32] : List UInt8).length <= 9223372036854775807 := by simp; omega
     simp only [grd_dec g4]
     rw [dec_ev b1 (by omega)]
     have g5 : ((((([40] : List UInt8) ++ wordOf x.1) ++ ([32] : List UInt8)) ++ Go.Lib.itoa x.2.2.1) ++ ([32] : List UInt8)).length + (Go.Lib.itoa x.2.2.2.1).length <= 9223372036854775807 := by simp; omega
     simp only [grd_dec g5]
     exact fin _ (by rw [en]; simp [Go.Lib.joinTail])
    ·have e : nbI x.1 = 1 := by rw [nbI, if_neg c3, if_neg c4]
     have en : numsOf x = [Go.Lib.itoa x.2.2.1] := by rw [numsOf, if_neg c3, if_neg c4]
     rw [e, if_pos (by decide)]
     simp only [grd_dec g2]
     rw [dec_ev a1 (by omega)]
     simp only [grd_dec g3]
     rw [parts_ev h1, e]
     simp only [Ev.iteI, decide_eq_true_eq]
     rw [if_neg (by decide)]
     exact fin _ (by rw [en]; simp [Go.Lib.joinTail])
theorem setAll_at : ∀ {ks : List Int} {u : List Bool} {i : Nat}, rd (setAll u ks) i = true -> rd u i = true \/ ∃ k ∈ ks, k.toNat = i
 | [], u, i, h => .inl h
 | k :: ks, u, i, h => by
  rw [setAll] at h
  rcases setAll_at h with h | ⟨k', h1, h2⟩
  ·by_cases e : k.toNat = i
   ·exact .inr ⟨k, List.mem_cons_self, e⟩
   ·left
    rw [rd, List.getD_eq_getElem?_getD, List.getElem?_set, if_neg e, <- List.getD_eq_getElem?_getD] at h
    exact h
  ·exact .inr ⟨k', List.mem_cons_of_mem _ h1, h2⟩
theorem used_at {d : List tDecl} : ∀ {ys : List tTNode} {wide : List Int} {used : List Bool} {r : List Int × List Bool} {i : Nat}, widthsGo d ys wide used = some r -> rd r.2 i = true -> rd used i = true \/ ∃ j, j < ys.length /\ ∃ k ∈ (rd ys j).2.2.2.2.2.2, k.toNat = i
 | [], wide, used, r, i, h, hu => by rw [widthsGo] at h; cases h; exact .inl hu
 | x :: ys, wide, used, r, i, h, hu => by
  rw [widthsGo] at h
  cases hs : stepW d x wide with
  | none => rw [hs] at h; cases h
  | some w =>
   rw [hs] at h
   rcases used_at h hu with h1 | ⟨j, h1, h2⟩
   ·rcases setAll_at h1 with h1 | h1
    ·exact .inl h1
    ·exact .inr ⟨0, by simp, h1⟩
   ·exact .inr ⟨j + 1, by simpa using h1, h2⟩
theorem short_of {d : List tDecl} : ∀ {ys : List tTNode} {acc : List (List UInt8)}, (∀ j, acc.length <= j -> j < acc.length + ys.length -> (rd (texts d ys acc) j).length <= 20000) -> shortGo d ys acc = true
 | [], acc, h => rfl
 | x :: ys, acc, h => by
  have e1 : rd (acc ++ [txtN d x (kidsOf acc x.2.2.2.2.2.2)]) acc.length = txtN d x (kidsOf acc x.2.2.2.2.2.2) := by
   rw [rd, List.getD_eq_getElem?_getD, List.getElem?_append_right (Nat.le_refl _), Nat.sub_self]; rfl
  have h0 := h acc.length (Nat.le_refl _) (by simp)
  rw [texts, texts_old (by simp), e1] at h0
  rw [shortGo, decide_eq_true h0, Bool.true_and]
  refine short_of fun j h1 h2 => ?_
  rw [List.length_append, List.length_singleton] at h1 h2
  exact h j (by omega) (by rw [List.length_cons]; omega)
theorem short_all {d : List tDecl} : ∀ {ys : List tTNode} {acc : List (List UInt8)}, shortGo d ys acc = true -> ∀ j, acc.length <= j -> j < acc.length + ys.length -> (rd (texts d ys acc) j).length <= 20000
 | [], acc, h, j, h1, h2 => by rw [List.length_nil] at h2; omega
 | x :: ys, acc, h, j, h1, h2 => by
  have e1 : rd (acc ++ [txtN d x (kidsOf acc x.2.2.2.2.2.2)]) acc.length = txtN d x (kidsOf acc x.2.2.2.2.2.2) := by
   rw [rd, List.getD_eq_getElem?_getD, List.getElem?_append_right (Nat.le_refl _), Nat.sub_self]; rfl
  rw [shortGo, Bool.and_eq_true, decide_eq_true_eq] at h
  by_cases e : j = acc.length
  ·subst e
   rw [texts, texts_old (by simp), e1]; exact h.1
  ·rw [List.length_cons] at h2
   exact short_all h.2 j (by rw [List.length_append, List.length_singleton]; omega) (by rw [List.length_append, List.length_singleton]; omega)
theorem last_long {d : List tDecl} {t : List tTNode} {r : List Int × List Bool} (hn : NodesT d t 0) (h1 : 1 <= t.length) (hg : widthsGo d t [] (List.replicate t.length false) = some r) (hu : (r.2.take (t.length - 1)).all id = true) :
  ∀ (m i : Nat), i + m = t.length - 1 -> (rd (texts d t []) i).length <= (rd (texts d t []) (t.length - 1)).length := by
 have hrl : r.2.length = t.length := by
  have := (widthsGo_ok (fun w hw => by cases hw) hg).2.2
  simpa using this
 intro m
 induction m using Nat.strongRecOn with
 | _ m ih =>
  intro i hi
  match m with
  | 0 => rw [show i = t.length - 1 from by omega]; exact Nat.le_refl _
  | m + 1 =>
   have hui : rd r.2 i = true := by
    rw [List.all_eq_true] at hu
    have hlt : i < (r.2.take (t.length - 1)).length := by rw [List.length_take]; omega
    have := hu _ (List.getElem_mem hlt)
    rw [List.getElem_take] at this
    rw [rd, List.getD_eq_getElem?_getD, List.getElem?_eq_getElem (show i < r.2.length by omega)]
    simpa using this
   rcases used_at hg hui with h | ⟨j, hj, k, hk, hki⟩
   ·exfalso
    rw [rd, List.getD_eq_getElem?_getD, List.getElem?_replicate] at h
    rw [if_pos (by omega)] at h
    cases h
   ·obtain ⟨n1, e1⟩ := texts_at (d := d) (ys := t) (acc := []) hn j hj
    simp only [List.length_nil, Nat.zero_add] at n1 e1
    have hk2 := n1.1.1
    rw [kidsIn, List.all_eq_true] at hk2
    have := hk2 k hk
    rw [decide_eq_true_eq] at this
    have hle := kid_le (T := texts d t []) n1 hk
    rw [<- e1, hki] at hle
    exact Nat.le_trans hle (ih (t.length - 1 - j) (by omega) j (by omega))
theorem decls_short {l : List tDecl} (h : declsOk l = true) : ∀ y ∈ l, y.1.length <= 100 := by
 have go : ∀ {ys pre : List tDecl} {t : Int}, declsGo pre ys t = true -> ∀ y ∈ ys, y.1.length <= 100 := by
  intro ys
  induction ys with
  | nil => intro pre t _ y hy; cases hy
  | cons z ys ih =>
   intro pre t h y hy
   rw [declsGo, Bool.and_eq_true, Bool.and_eq_true, Bool.and_eq_true] at h
   rcases List.mem_cons.1 hy with rfl | hy
   ·have := h.1.1.1
    rw [nameOk, Bool.and_eq_true, decide_eq_true_eq] at this
    omega
   ·exact ih h.2 y hy
 rw [declsOk, Bool.and_eq_true] at h
 exact go h.2
theorem writeTS_ev {d : List tDecl} {t : List tTNode} (hd : d.length <= 1099511627776) (hg : ∀ x : tTNode, x ∈ t -> Wd x.2.2.2.2.2.1 /\ x.2.2.2.2.2.2.length <= 1099511627776) (R : Nat -> List UInt8 -> Prop) :
  Ev (fun n => Z48.c n d t (R n)) ↔ Ev (fun n => R n (writeOf d t)) := by
 have hy : ∀ x ∈ t, Wd x.2.2.2.2.2.1 := fun x hx => (hg x hx).1
 refine Ev.suc.trans ?_
 simp only [Z48.c, Z48.w, widthOfS_ev hd hg, Ev.iteI, decide_eq_true_eq, decide_eq_false_iff_not, and_self, writeOf]
 by_cases h : widthOf d t < 0
 ·rw [if_neg (by simpa using h), if_pos h, Ev.s1 R]
 ·rw [if_pos (by simpa using h), if_neg h]
  obtain ⟨h1, h2, h3, h4, r, h5, h6⟩ := widthOf_T h
  have hl : (texts d t []).length = t.length := by rw [texts_len]; simp
  have lp := sizes_lp (d := d) h4 (decls_short h1) t [] rfl (by simp) hy h2
  refine Ev.suc.trans ?_
  simp only [Z60.c, Z60.w]
  refine (lp _).trans ?_
  rw [wrap64 (x := (t.length : Int) - 1) (by omega) (by omega), show ((t.length : Int) - 1).toNat = t.length - 1 from by omega, rd_map (by omega)]
  have g : (0 : Int) <= (t.length : Int) - 1 /\ (t.length : Int) - 1 < (((texts d t []).map szI).length : Int) := ⟨by omega, by rw [List.length_map]; omega⟩
  simp only [grd_dec2 g, Ev.iteI, decide_eq_true_eq]
  have hlast := last_long h2 h3 h5 h6
  by_cases hs : (rd (texts d t []) (t.length - 1)).length <= 20000
  ·have hsh : shortGo d t [] = true := short_of fun j _ hj => by
    have := hlast (t.length - 1 - j) j (by simp at hj; omega)
    omega
   rw [if_neg (by unfold szI sz1; omega), if_pos hsh]
   refine (Ev.suc (P := fun n => Z61.c n d t ((t.length : Int) - 1) (R (n + 1)))).symm.trans ?_
   have lt := l3Text_ev h4 hy h2 t.length (t.length - 1) (by omega) (by omega) hs (fun n => R (n + 1))
   rw [show ((t.length - 1 : Nat) : Int) = (t.length : Int) - 1 from by omega] at lt
   exact lt.trans (Ev.s1 R _)
  ·have hsh : ¬ shortGo d t [] = true := fun hh => hs (short_all hh (t.length - 1) (by simp) (by simp; omega))
   rw [if_pos (by unfold szI sz1; omega), if_neg hsh]
   exact (Ev.suc (P := fun n => R (n + 1) [])).symm.trans (Ev.s1 R _)
end Go.Vsi
end

section
set_option linter.unusedVariables false
set_option linter.unusedSimpArgs false
namespace Go.Vsi
end Go.Vsi
end

section
set_option linter.unusedVariables false
set_option linter.unusedSimpArgs false
set_option synthInstance.maxSize 4096
namespace Go.Vsi
theorem Z26_ev {a0 : List UInt8} {a1 : Int} {left : Int} (h0 : -1 <= left) (h1 : left <= 1099511627776) (h2 : a0.length <= 9223372036854775807) (R : Nat -> Int -> Prop) :
  Ev (fun n => Z26.c n a0 a1 left (R n)) ↔ Ev (fun n => R n (szr left (a0.length))) := by
 refine Ev.suc.trans ?_
 simp (disch := first | assumption | omega | exact szr_m1 (by assumption) | exact szr_le' (by assumption) (by assumption)) only [Z26.c, Z26.w, wrap64, Ev.iteI, decide_eq_true_eq, Ev.s1 R]
 unfold szr; (repeat' split) <;> first | rfl | (exfalso; omega) | exact ev_arg (by omega)
def sDeclS : List tDecl -> Nat
 | [] => 0
 | y :: r => y.1.length + sDeclS r
theorem sDeclS_mem {y : tDecl} : ∀ {l : List tDecl}, y ∈ l -> y.1.length <= sDeclS l
 | [], h => absurd h List.not_mem_nil
 | a :: l, h => by
  rw [sDeclS]
  rcases List.mem_cons.1 h with rfl | h
  ·omega
  ·have := sDeclS_mem h; omega
abbrev yDecl : Ty := .prod .str (.int .i64)
theorem szDeclS_gd {l : List tDecl} (h : Gd (.sl 0 yDecl) l) : ∀ y : tDecl, y ∈ l -> y.1.length <= 9223372036854775807 := fun y hy => (h.2 y hy).1
theorem Z27_lp {l : List tDecl} (hl : l.length <= 9223372036854775807) : ∀ (ys : List tDecl) (x left : Int), l.drop x.toNat = ys -> 0 <= x -> 0 <= left -> left <= 1099511627776 -> (∀ y ∈ ys, y.1.length <= 9223372036854775807) -> ∀ (Kx : Nat -> Int -> Prop),
  (Ev (fun n => Z27.l5 n l left x (Kx n) (Kx n)) ↔ Ev (fun n => Kx n (szr left (sDeclS ys))))
 | [], x, left, h, h0, h1, h2, hy, Kx => by
  have := drop_nil h h0
  refine Ev.suc.trans ?_
  simp (disch := omega) only [Z27.l5, Z27.l5.b, if_neg, decide_eq_true_eq, Ev.s1 Kx, sDeclS]
  refine ev_arg ?_; unfold szr; split <;> omega
 | y :: ys, x, left, h, h0, h1, h2, hy, Kx => by
  obtain ⟨e1, e2, e3⟩ := drop_cons h h0
  have hy0 := hy y List.mem_cons_self
  refine Ev.suc.trans ?_
  simp (disch := first | assumption | exact hy0.1 | exact hy0.2 | exact hy0.2.1 | exact hy0.2.2 | exact hy0.2.2.1 | exact hy0.2.2.2 | omega) only [Z27.l5, Z27.l5.b, if_pos, decide_eq_true_eq, Ev.s1 Kx, grd_dec2, e2, Z26_ev, Ev.iteI, wrap64]
  split
  ·rename_i hs
   rw [sDeclS, szr_back hs]
  ·rename_i hs
   rw [Z27_lp hl ys (x + 1) _ e3 (by omega) (by omega) (szr_le' (by omega) h2) (fun y hy' => hy y (List.mem_cons_of_mem _ hy')), sDeclS, szr_two h1 hs, Ev.s1 Kx]
theorem Z27_ev {l : List tDecl} {left : Int} (h0 : -1 <= left) (h1 : left <= 1099511627776) (hl : l.length <= 9223372036854775807) (hy : ∀ y ∈ l, y.1.length <= 9223372036854775807) (R : Nat -> Int -> Prop) :
  Ev (fun n => Z27.c n l left (R n)) ↔ Ev (fun n => R n (szr left (l.length + sDeclS l))) := by
 refine Ev.suc.trans ?_
 simp (disch := omega) only [Z27.c, Z27.w, wrap64, Ev.iteI, decide_eq_true_eq, Ev.s1 R]
 split
 ·refine ev_arg ?_; unfold szr; split <;> omega
 ·rw [Z27_lp hl l 0 _ rfl (by omega) (by omega) (by omega) hy, Ev.s1 R]
  refine ev_arg ?_; unfold szr; (repeat' split) <;> omega
theorem Z32_ev {l : List Int} {left : Int} (h0 : -1 <= left) (h1 : left <= 1099511627776) (hl : l.length <= 9223372036854775807) (R : Nat -> Int -> Prop) :
  Ev (fun n => Z32.c n l left (R n)) ↔ Ev (fun n => R n (szr left l.length)) := by
 refine Ev.suc.trans ?_
 simp (disch := omega) only [Z32.c, Z32.w, wrap64, Ev.iteI, decide_eq_true_eq, Ev.s1 R]
 unfold szr; split <;> split <;> first | rfl | omega | exact ev_arg (by omega)
theorem Z25_ev {a0 : Int} {a1 : List Int} {left : Int} (h0 : -1 <= left) (h1 : left <= 1099511627776) (h2 : a1.length <= 9223372036854775807) (R : Nat -> Int -> Prop) :
  Ev (fun n => Z25.c n a0 a1 left (R n)) ↔ Ev (fun n => R n (szr left (a1.length))) := by
 refine Ev.suc.trans ?_
 simp (disch := first | assumption | omega | exact szr_m1 (by assumption) | exact szr_le' (by assumption) (by assumption)) only [Z25.c, Z25.w, Z32_ev, wrap64, Ev.iteI, decide_eq_true_eq, Ev.s1 R]
 unfold szr; (repeat' split) <;> first | rfl | (exfalso; omega) | exact ev_arg (by omega)
theorem Z28_ev {l : List Int} {left : Int} (h0 : -1 <= left) (h1 : left <= 1099511627776) (hl : l.length <= 9223372036854775807) (R : Nat -> Int -> Prop) :
  Ev (fun n => Z28.c n l left (R n)) ↔ Ev (fun n => R n (szr left l.length)) := by
 refine Ev.suc.trans ?_
 simp (disch := omega) only [Z28.c, Z28.w, wrap64, Ev.iteI, decide_eq_true_eq, Ev.s1 R]
 unfold szr; split <;> split <;> first | rfl | omega | exact ev_arg (by omega)
theorem Z29_ev {a0 : Int} {a1 : Int} {a2 : Int} {a3 : Int} {a4 : Int} {a5 : List Int} {a6 : List Int} {left : Int} (h0 : -1 <= left) (h1 : left <= 1099511627776) (h2 : a5.length <= 9223372036854775807) (h3 : a6.length <= 9223372036854775807) (R : Nat -> Int -> Prop) :
  Ev (fun n => Z29.c n a0 a1 a2 a3 a4 a5 a6 left (R n)) ↔ Ev (fun n => R n (szr left (a5.length + a6.length))) := by
 refine Ev.suc.trans ?_
 simp (disch := first | assumption | omega | exact szr_m1 (by assumption) | exact szr_le' (by assumption) (by assumption)) only [Z29.c, Z29.w, Z25_ev, Z28_ev, wrap64, Ev.iteI, decide_eq_true_eq, Ev.s1 R]
 unfold szr; (repeat' split) <;> first | rfl | (exfalso; omega) | exact ev_arg (by omega)
def sTNodeS : List tTNode -> Nat
 | [] => 0
 | y :: r => (y.2.2.2.2.2.1.length + y.2.2.2.2.2.2.length) + sTNodeS r
theorem sTNodeS_mem {y : tTNode} : ∀ {l : List tTNode}, y ∈ l -> y.2.2.2.2.2.1.length + y.2.2.2.2.2.2.length <= sTNodeS l
 | [], h => absurd h List.not_mem_nil
 | a :: l, h => by
  rw [sTNodeS]
  rcases List.mem_cons.1 h with rfl | h
  ·omega
  ·have := sTNodeS_mem h; omega
abbrev yTNode : Ty := .prod (.int .i64) (.prod (.int .i64) (.prod (.int .i64) (.prod (.int .i64) (.prod (.int .i64) (.prod (.sl 0 (.int .u64)) (.sl 0 (.int .i64)))))))
theorem szTNodeS_gd {l : List tTNode} (h : Gd (.sl 0 yTNode) l) : ∀ y : tTNode, y ∈ l -> y.2.2.2.2.2.1.length <= 9223372036854775807 /\ y.2.2.2.2.2.2.length <= 9223372036854775807 := fun y hy => ⟨(h.2 y hy).2.2.2.2.2.1.1, (h.2 y hy).2.2.2.2.2.2.1⟩
theorem Z30_lp {l : List tTNode} (hl : l.length <= 9223372036854775807) : ∀ (ys : List tTNode) (x left : Int), l.drop x.toNat = ys -> 0 <= x -> 0 <= left -> left <= 1099511627776 -> (∀ y ∈ ys, y.2.2.2.2.2.1.length <= 9223372036854775807 /\ y.2.2.2.2.2.2.length <= 9223372036854775807) -> ∀ (Kx : Nat -> Int -> Prop),
  (Ev (fun n => Z30.l5 n l left x (Kx n) (Kx n)) ↔ Ev (fun n => Kx n (szr left (sTNodeS ys))))
 | [], x, left, h, h0, h1, h2, hy, Kx => by
  have := drop_nil h h0
  refine Ev.suc.trans ?_
  simp (disch := omega) only [Z30.l5, Z30.l5.b, if_neg, decide_eq_true_eq, Ev.s1 Kx, sTNodeS]
  refine ev_arg ?_; unfold szr; split <;> omega
 | y :: ys, x, left, h, h0, h1, h2, hy, Kx => by
  obtain ⟨e1, e2, e3⟩ := drop_cons h h0
  have hy0 := hy y List.mem_cons_self
  refine Ev.suc.trans ?_
  simp (disch := first | assumption | exact hy0.1 | exact hy0.2 | exact hy0.2.1 | exact hy0.2.2 | exact hy0.2.2.1 | exact hy0.2.2.2 | omega) only [Z30.l5, Z30.l5.b, if_pos, decide_eq_true_eq, Ev.s1 Kx, grd_dec2, e2, Z29_ev, Ev.iteI, wrap64]
  split
  ·rename_i hs
   rw [sTNodeS, szr_back hs]
  ·rename_i hs
   rw [Z30_lp hl ys (x + 1) _ e3 (by omega) (by omega) (szr_le' (by omega) h2) (fun y hy' => hy y (List.mem_cons_of_mem _ hy')), sTNodeS, szr_two h1 hs, Ev.s1 Kx]
theorem Z30_ev {l : List tTNode} {left : Int} (h0 : -1 <= left) (h1 : left <= 1099511627776) (hl : l.length <= 9223372036854775807) (hy : ∀ y ∈ l, y.2.2.2.2.2.1.length <= 9223372036854775807 /\ y.2.2.2.2.2.2.length <= 9223372036854775807) (R : Nat -> Int -> Prop) :
  Ev (fun n => Z30.c n l left (R n)) ↔ Ev (fun n => R n (szr left (l.length + sTNodeS l))) := by
 refine Ev.suc.trans ?_
 simp (disch := omega) only [Z30.c, Z30.w, wrap64, Ev.iteI, decide_eq_true_eq, Ev.s1 R]
 split
 ·refine ev_arg ?_; unfold szr; split <;> omega
 ·rw [Z30_lp hl l 0 _ rfl (by omega) (by omega) (by omega) hy, Ev.s1 R]
  refine ev_arg ?_; unfold szr; (repeat' split) <;> omega
theorem Z31_ev {a0 : List (Int × Int × Int × Int × Int × List (Int) × List (Int))} {left : Int} (h0 : -1 <= left) (h1 : left <= 1099511627776) (h2 : a0.length <= 9223372036854775807) (h3 : (∀ y : tTNode, y ∈ a0 -> y.2.2.2.2.2.1.length <= 9223372036854775807 /\ y.2.2.2.2.2.2.length <= 9223372036854775807)) (R : Nat -> Int -> Prop) :
  Ev (fun n => Z31.c n a0 left (R n)) ↔ Ev (fun n => R n (szr left ((a0.length + sTNodeS a0)))) := by
 refine Ev.suc.trans ?_
 simp (disch := first | assumption | omega | exact szr_m1 (by assumption) | exact szr_le' (by assumption) (by assumption)) only [Z31.c, Z31.w, Z30_ev, wrap64, Ev.iteI, decide_eq_true_eq, Ev.s1 R]
 unfold szr; (repeat' split) <;> first | rfl | (exfalso; omega) | exact ev_arg (by omega)
theorem Z34_ev {a0 : List UInt8} {a1 : Int} (h : a0.length <= 1048576) (R : Nat -> List UInt8 -> Int -> Prop) :
  Ev (fun n => Z34.c n a0 a1 (R n)) ↔ Ev (fun n => R n a0 a1) := by
 refine Ev.suc.trans ?_
 simp (disch := omega) only [Z34.c, Z34.w, Ev.s2 R]
theorem Z35_lp {l : List tDecl} (hl : l.length <= 1048576) : ∀ (ys : List tDecl) (x : Int) (o : List tDecl), l.drop x.toNat = ys -> 0 <= x -> o.length = l.length -> (∀ y ∈ ys, y.1.length <= 1048576) -> ∀ (Kx : Nat -> List tDecl -> Prop),
  (Ev (fun n => Z35.l3 n l x o (Kx n)) ↔ Ev (fun n => Kx n (o.take x.toNat ++ ys)))
 | [], x, o, h, h0, ho, hy, Kx => by
  have := drop_nil h h0
  refine Ev.suc.trans ?_
  simp (disch := omega) only [Z35.l3, Z35.l3.b, if_neg, decide_eq_true_eq, Ev.s1 Kx]
  rw [List.take_of_length_le (by omega), List.append_nil]
 | y :: ys, x, o, h, h0, ho, hy, Kx => by
  obtain ⟨e1, e2, e3⟩ := drop_cons h h0
  have hy0 := hy y List.mem_cons_self
  refine Ev.suc.trans ?_
  simp (disch := omega) only [Z35.l3, Z35.l3.b, if_pos, decide_eq_true_eq, Ev.s1 Kx, grd_dec2, e2, wrap64, Z34_ev]
  rw [Z35_lp hl ys (x + 1) _ e3 (by omega) (by simpa using ho) (fun y hy' => hy y (List.mem_cons_of_mem _ hy')), Ev.s1 Kx, take_set (by omega) (by omega), List.append_assoc]
  rfl
theorem Z35_ev {l : List tDecl} (h : (l.length + sDeclS l) <= 1048576) (R : Nat -> List tDecl -> Prop) :
  Ev (fun n => Z35.c n l (R n)) ↔ Ev (fun n => R n l) := by
 refine Ev.suc.trans ?_
 simp (disch := omega) only [Z35.c, Z35.w, grd_dec2, decide_true, Bool.and_true]
 rw [Z35_lp (by omega) l 0 _ rfl (by omega) (by simp) (fun y hy => by have := sDeclS_mem hy; omega), Ev.s1 R]
 simp
theorem Z40_lp {l : List Int} (hl : l.length <= 1048576) : ∀ (ys : List Int) (x : Int) (o : List Int), l.drop x.toNat = ys -> 0 <= x -> o.length = l.length -> ∀ (Kx : Nat -> List Int -> Prop),
  (Ev (fun n => Z40.l3 n l x o (Kx n)) ↔ Ev (fun n => Kx n (o.take x.toNat ++ ys)))
 | [], x, o, h, h0, ho, Kx => by
  have := drop_nil h h0
  refine Ev.suc.trans ?_
  simp (disch := omega) only [Z40.l3, Z40.l3.b, if_neg, decide_eq_true_eq, Ev.s1 Kx]
  rw [List.take_of_length_le (by omega), List.append_nil]
 | y :: ys, x, o, h, h0, ho, Kx => by
  obtain ⟨e1, e2, e3⟩ := drop_cons h h0
  refine Ev.suc.trans ?_
  simp (disch := omega) only [Z40.l3, Z40.l3.b, if_pos, decide_eq_true_eq, Ev.s1 Kx, grd_dec2, e2, wrap64]
  rw [Z40_lp hl ys (x + 1) _ e3 (by omega) (by simpa using ho), Ev.s1 Kx, take_set (by omega) (by omega), List.append_assoc]
  rfl
theorem Z40_ev {l : List Int} (h : l.length <= 1048576) (R : Nat -> List Int -> Prop) :
  Ev (fun n => Z40.c n l (R n)) ↔ Ev (fun n => R n l) := by
 refine Ev.suc.trans ?_
 simp (disch := omega) only [Z40.c, Z40.w, grd_dec2, decide_true, Bool.and_true]
 rw [Z40_lp (by omega) l 0 _ rfl (by omega) (by simp), Ev.s1 R]
 simp
theorem Z33_ev {a0 : Int} {a1 : List Int} (h : a1.length <= 1048576) (R : Nat -> Int -> List Int -> Prop) :
  Ev (fun n => Z33.c n a0 a1 (R n)) ↔ Ev (fun n => R n a0 a1) := by
 refine Ev.suc.trans ?_
 simp (disch := omega) only [Z33.c, Z33.w, Z40_ev, Ev.s2 R]
theorem Z36_lp {l : List Int} (hl : l.length <= 1048576) : ∀ (ys : List Int) (x : Int) (o : List Int), l.drop x.toNat = ys -> 0 <= x -> o.length = l.length -> ∀ (Kx : Nat -> List Int -> Prop),
  (Ev (fun n => Z36.l3 n l x o (Kx n)) ↔ Ev (fun n => Kx n (o.take x.toNat ++ ys)))
 | [], x, o, h, h0, ho, Kx => by
  have := drop_nil h h0
  refine Ev.suc.trans ?_
  simp (disch := omega) only [Z36.l3, Z36.l3.b, if_neg, decide_eq_true_eq, Ev.s1 Kx]
  rw [List.take_of_length_le (by omega), List.append_nil]
 | y :: ys, x, o, h, h0, ho, Kx => by
  obtain ⟨e1, e2, e3⟩ := drop_cons h h0
  refine Ev.suc.trans ?_
  simp (disch := omega) only [Z36.l3, Z36.l3.b, if_pos, decide_eq_true_eq, Ev.s1 Kx, grd_dec2, e2, wrap64]
  rw [Z36_lp hl ys (x + 1) _ e3 (by omega) (by simpa using ho), Ev.s1 Kx, take_set (by omega) (by omega), List.append_assoc]
  rfl
theorem Z36_ev {l : List Int} (h : l.length <= 1048576) (R : Nat -> List Int -> Prop) :
  Ev (fun n => Z36.c n l (R n)) ↔ Ev (fun n => R n l) := by
 refine Ev.suc.trans ?_
 simp (disch := omega) only [Z36.c, Z36.w, grd_dec2, decide_true, Bool.and_true]
 rw [Z36_lp (by omega) l 0 _ rfl (by omega) (by simp), Ev.s1 R]
 simp
theorem Z37_ev {a0 : Int} {a1 : Int} {a2 : Int} {a3 : Int} {a4 : Int} {a5 : List Int} {a6 : List Int} (h : a5.length + a6.length <= 1048576) (R : Nat -> Int -> Int -> Int -> Int -> Int -> List Int -> List Int -> Prop) :
  Ev (fun n => Z37.c n a0 a1 a2 a3 a4 a5 a6 (R n)) ↔ Ev (fun n => R n a0 a1 a2 a3 a4 a5 a6) := by
 refine Ev.suc.trans ?_
 simp (disch := omega) only [Z37.c, Z37.w, Z33_ev, Z36_ev, Ev.s7 R]
theorem Z38_lp {l : List tTNode} (hl : l.length <= 1048576) : ∀ (ys : List tTNode) (x : Int) (o : List tTNode), l.drop x.toNat = ys -> 0 <= x -> o.length = l.length -> (∀ y ∈ ys, y.2.2.2.2.2.1.length + y.2.2.2.2.2.2.length <= 1048576) -> ∀ (Kx : Nat -> List tTNode -> Prop),
  (Ev (fun n => Z38.l3 n l x o (Kx n)) ↔ Ev (fun n => Kx n (o.take x.toNat ++ ys)))
 | [], x, o, h, h0, ho, hy, Kx => by
  have := drop_nil h h0
  refine Ev.suc.trans ?_
  simp (disch := omega) only [Z38.l3, Z38.l3.b, if_neg, decide_eq_true_eq, Ev.s1 Kx]
  rw [List.take_of_length_le (by omega), List.append_nil]
 | y :: ys, x, o, h, h0, ho, hy, Kx => by
  obtain ⟨e1, e2, e3⟩ := drop_cons h h0
  have hy0 := hy y List.mem_cons_self
  refine Ev.suc.trans ?_
  simp (disch := omega) only [Z38.l3, Z38.l3.b, if_pos, decide_eq_true_eq, Ev.s1 Kx, grd_dec2, e2, wrap64, Z37_ev]
  rw [Z38_lp hl ys (x + 1) _ e3 (by omega) (by simpa using ho) (fun y hy' => hy y (List.mem_cons_of_mem _ hy')), Ev.s1 Kx, take_set (by omega) (by omega), List.append_assoc]
  rfl
theorem Z38_ev {l : List tTNode} (h : (l.length + sTNodeS l) <= 1048576) (R : Nat -> List tTNode -> Prop) :
  Ev (fun n => Z38.c n l (R n)) ↔ Ev (fun n => R n l) := by
 refine Ev.suc.trans ?_
 simp (disch := omega) only [Z38.c, Z38.w, grd_dec2, decide_true, Bool.and_true]
 rw [Z38_lp (by omega) l 0 _ rfl (by omega) (by simp) (fun y hy => by have := sTNodeS_mem hy; omega), Ev.s1 R]
 simp
theorem Z39_ev {a0 : List (Int × Int × Int × Int × Int × List (Int) × List (Int))} (h : (a0.length + sTNodeS a0) <= 1048576) (R : Nat -> List (Int × Int × Int × Int × Int × List (Int) × List (Int)) -> Prop) :
  Ev (fun n => Z39.c n a0 (R n)) ↔ Ev (fun n => R n a0) := by
 refine Ev.suc.trans ?_
 simp (disch := omega) only [Z39.c, Z39.w, Z38_ev, Ev.s1 R]
theorem Z18_ev {a0 b0 : List UInt8} {a1 b1 : Int} (R : Nat -> Bool -> Prop) :
  Ev (fun n => Z18.c n a0 a1 b0 b1 (R n)) ↔ Ev (fun n => R n (decide (a0 = b0 /\ a1 = b1))) := by
 refine Ev.suc.trans ?_
 simp (disch := first | assumption | omega) only [Z18.c, Z18.w, Ev.iteI, Bool.not_eq_true', decide_eq_false_iff_not, beq_eq_false_iff_ne, ne_eq, Ev.s1 R]
 (repeat' split) <;> first | (rw [decide_eq_false]; simp_all; done) | (rw [decide_eq_true]; simp_all; done)
theorem Z19_lp {l l' : List tDecl} (hl : l.length <= 1099511627776) (hll : l.length = l'.length) : ∀ (ys ys' : List tDecl) (x : Int), l.drop x.toNat = ys -> l'.drop x.toNat = ys' -> 0 <= x -> ∀ (Kx : Nat -> Prop) (Kr : Nat -> Bool -> Prop),
  (Ev (fun n => Z19.l4 n l l' x (Kx n) (Kr n)) ↔ if ys = ys' then Ev Kx else Ev (fun n => Kr n false))
 | [], [], x, h, h', h0, Kx, Kr => by
  have := drop_nil h h0
  refine Ev.suc.trans ?_
  simp (disch := omega) only [Z19.l4, Z19.l4.b, if_neg, decide_eq_true_eq, Ev.s0 Kx, if_true]
 | [], y' :: ys', x, h, h', h0, Kx, Kr => by
  have := drop_nil h h0; have := (drop_cons h' h0).1; omega
 | y :: ys, [], x, h, h', h0, Kx, Kr => by
  have := drop_nil h' h0; have := (drop_cons h h0).1; omega
 | y :: ys, y' :: ys', x, h, h', h0, Kx, Kr => by
  obtain ⟨e1, e2, e3⟩ := drop_cons h h0
  obtain ⟨_, f2, f3⟩ := drop_cons h' h0
  refine Ev.suc.trans ?_
  simp (disch := first | assumption | exact hy0.1 | exact hy0.2 | exact hy0.2.1 | exact hy0.2.2 | exact hy0.2.2.1 | exact hy0.2.2.2 | omega) only [Z19.l4, Z19.l4.b, if_pos, decide_eq_true_eq, Ev.s0 Kx, Ev.s1 Kr, grd_dec2, e2, f2, wrap64, Z18_ev, Ev.iteI, Bool.not_eq_true', decide_eq_false_iff_not]
  rw [Z19_lp hl hll ys ys' (x + 1) e3 f3 (by omega), Ev.s0 Kx, Ev.s1 Kr]
  simp only [List.cons.injEq, Prod.ext_iff]
  (repeat' split) <;> first | rfl | (exfalso; simp_all; done)
theorem Z19_ev {l l' : List tDecl} (hl : l.length <= 1099511627776) (R : Nat -> Bool -> Prop) :
  Ev (fun n => Z19.c n l l' (R n)) ↔ Ev (fun n => R n (decide (l = l'))) := by
 refine Ev.suc.trans ?_
 simp (disch := omega) only [Z19.c, Z19.w, Ev.iteI, Bool.not_eq_true', decide_eq_false_iff_not, Ev.s1 R]
 split
 ·rw [decide_eq_false]; intro e; subst e; omega
 ·rw [Z19_lp hl (by omega) l l' 0 rfl rfl (by omega), Ev.s1 R, Ev.s1 R]
  split
  ·rw [decide_eq_true ‹_›]
  ·rw [decide_eq_false ‹_›]
theorem Z24_lp {l l' : List Int} (hl : l.length <= 1099511627776) (hll : l.length = l'.length) : ∀ (ys ys' : List Int) (x : Int), l.drop x.toNat = ys -> l'.drop x.toNat = ys' -> 0 <= x -> ∀ (Kx : Nat -> Prop) (Kr : Nat -> Bool -> Prop),
  (Ev (fun n => Z24.l4 n l l' x (Kx n) (Kr n)) ↔ if ys = ys' then Ev Kx else Ev (fun n => Kr n false))
 | [], [], x, h, h', h0, Kx, Kr => by
  have := drop_nil h h0
  refine Ev.suc.trans ?_
  simp (disch := omega) only [Z24.l4, Z24.l4.b, if_neg, decide_eq_true_eq, Ev.s0 Kx, if_true]
 | [], y' :: ys', x, h, h', h0, Kx, Kr => by
  have := drop_nil h h0; have := (drop_cons h' h0).1; omega
 | y :: ys, [], x, h, h', h0, Kx, Kr => by
  have := drop_nil h' h0; have := (drop_cons h h0).1; omega
 | y :: ys, y' :: ys', x, h, h', h0, Kx, Kr => by
  obtain ⟨e1, e2, e3⟩ := drop_cons h h0
  obtain ⟨_, f2, f3⟩ := drop_cons h' h0
  refine Ev.suc.trans ?_
  simp (disch := first | assumption | exact hy0.1 | exact hy0.2 | exact hy0.2.1 | exact hy0.2.2 | exact hy0.2.2.1 | exact hy0.2.2.2 | omega) only [Z24.l4, Z24.l4.b, if_pos, decide_eq_true_eq, Ev.s0 Kx, Ev.s1 Kr, grd_dec2, e2, f2, wrap64, Ev.iteI, Bool.not_eq_true', decide_eq_false_iff_not]
  rw [Z24_lp hl hll ys ys' (x + 1) e3 f3 (by omega), Ev.s0 Kx, Ev.s1 Kr]
  simp only [List.cons.injEq, Prod.ext_iff]
  (repeat' split) <;> first | rfl | (exfalso; simp_all; done)
theorem Z24_ev {l l' : List Int} (hl : l.length <= 1099511627776) (R : Nat -> Bool -> Prop) :
  Ev (fun n => Z24.c n l l' (R n)) ↔ Ev (fun n => R n (decide (l = l'))) := by
 refine Ev.suc.trans ?_
 simp (disch := omega) only [Z24.c, Z24.w, Ev.iteI, Bool.not_eq_true', decide_eq_false_iff_not, Ev.s1 R]
 split
 ·rw [decide_eq_false]; intro e; subst e; omega
 ·rw [Z24_lp hl (by omega) l l' 0 rfl rfl (by omega), Ev.s1 R, Ev.s1 R]
  split
  ·rw [decide_eq_true ‹_›]
  ·rw [decide_eq_false ‹_›]
theorem Z17_ev {a0 b0 : Int} {a1 b1 : List Int} (h0 : a1.length <= 1099511627776) (R : Nat -> Bool -> Prop) :
  Ev (fun n => Z17.c n a0 a1 b0 b1 (R n)) ↔ Ev (fun n => R n (decide (a0 = b0 /\ a1 = b1))) := by
 refine Ev.suc.trans ?_
 simp (disch := first | assumption | omega) only [Z17.c, Z17.w, Z24_ev, Ev.iteI, Bool.not_eq_true', decide_eq_false_iff_not, beq_eq_false_iff_ne, ne_eq, Ev.s1 R]
 (repeat' split) <;> first | (rw [decide_eq_false]; simp_all; done) | (rw [decide_eq_true]; simp_all; done)
theorem Z20_lp {l l' : List Int} (hl : l.length <= 1099511627776) (hll : l.length = l'.length) : ∀ (ys ys' : List Int) (x : Int), l.drop x.toNat = ys -> l'.drop x.toNat = ys' -> 0 <= x -> ∀ (Kx : Nat -> Prop) (Kr : Nat -> Bool -> Prop),
  (Ev (fun n => Z20.l4 n l l' x (Kx n) (Kr n)) ↔ if ys = ys' then Ev Kx else Ev (fun n => Kr n false))
 | [], [], x, h, h', h0, Kx, Kr => by
  have := drop_nil h h0
  refine Ev.suc.trans ?_
  simp (disch := omega) only [Z20.l4, Z20.l4.b, if_neg, decide_eq_true_eq, Ev.s0 Kx, if_true]
 | [], y' :: ys', x, h, h', h0, Kx, Kr => by
  have := drop_nil h h0; have := (drop_cons h' h0).1; omega
 | y :: ys, [], x, h, h', h0, Kx, Kr => by
  have := drop_nil h' h0; have := (drop_cons h h0).1; omega
 | y :: ys, y' :: ys', x, h, h', h0, Kx, Kr => by
  obtain ⟨e1, e2, e3⟩ := drop_cons h h0
  obtain ⟨_, f2, f3⟩ := drop_cons h' h0
  refine Ev.suc.trans ?_
  simp (disch := first | assumption | exact hy0.1 | exact hy0.2 | exact hy0.2.1 | exact hy0.2.2 | exact hy0.2.2.1 | exact hy0.2.2.2 | omega) only [Z20.l4, Z20.l4.b, if_pos, decide_eq_true_eq, Ev.s0 Kx, Ev.s1 Kr, grd_dec2, e2, f2, wrap64, Ev.iteI, Bool.not_eq_true', decide_eq_false_iff_not]
  rw [Z20_lp hl hll ys ys' (x + 1) e3 f3 (by omega), Ev.s0 Kx, Ev.s1 Kr]
  simp only [List.cons.injEq, Prod.ext_iff]
  (repeat' split) <;> first | rfl | (exfalso; simp_all; done)
theorem Z20_ev {l l' : List Int} (hl : l.length <= 1099511627776) (R : Nat -> Bool -> Prop) :
  Ev (fun n => Z20.c n l l' (R n)) ↔ Ev (fun n => R n (decide (l = l'))) := by
 refine Ev.suc.trans ?_
 simp (disch := omega) only [Z20.c, Z20.w, Ev.iteI, Bool.not_eq_true', decide_eq_false_iff_not, Ev.s1 R]
 split
 ·rw [decide_eq_false]; intro e; subst e; omega
 ·rw [Z20_lp hl (by omega) l l' 0 rfl rfl (by omega), Ev.s1 R, Ev.s1 R]
  split
  ·rw [decide_eq_true ‹_›]
  ·rw [decide_eq_false ‹_›]
theorem Z21_ev {a0 b0 : Int} {a1 b1 : Int} {a2 b2 : Int} {a3 b3 : Int} {a4 b4 : Int} {a5 b5 : List Int} {a6 b6 : List Int} (h0 : a5.length <= 1099511627776) (h1 : a6.length <= 1099511627776) (R : Nat -> Bool -> Prop) :
  Ev (fun n => Z21.c n a0 a1 a2 a3 a4 a5 a6 b0 b1 b2 b3 b4 b5 b6 (R n)) ↔ Ev (fun n => R n (decide (a0 = b0 /\ a1 = b1 /\ a2 = b2 /\ a3 = b3 /\ a4 = b4 /\ a5 = b5 /\ a6 = b6))) := by
 refine Ev.suc.trans ?_
 simp (disch := first | assumption | omega) only [Z21.c, Z21.w, Z17_ev, Z20_ev, Ev.iteI, Bool.not_eq_true', decide_eq_false_iff_not, beq_eq_false_iff_ne, ne_eq, Ev.s1 R]
 (repeat' split) <;> first | (rw [decide_eq_false]; simp_all; done) | (rw [decide_eq_true]; simp_all; done)
theorem Z22_lp {l l' : List tTNode} (hl : l.length <= 1099511627776) (hll : l.length = l'.length) : ∀ (ys ys' : List tTNode) (x : Int), l.drop x.toNat = ys -> l'.drop x.toNat = ys' -> 0 <= x -> (∀ y ∈ ys, y.2.2.2.2.2.1.length <= 1099511627776 /\ y.2.2.2.2.2.2.length <= 1099511627776) -> ∀ (Kx : Nat -> Prop) (Kr : Nat -> Bool -> Prop),
  (Ev (fun n => Z22.l4 n l l' x (Kx n) (Kr n)) ↔ if ys = ys' then Ev Kx else Ev (fun n => Kr n false))
 | [], [], x, h, h', h0, hy, Kx, Kr => by
  have := drop_nil h h0
  refine Ev.suc.trans ?_
  simp (disch := omega) only [Z22.l4, Z22.l4.b, if_neg, decide_eq_true_eq, Ev.s0 Kx, if_true]
 | [], y' :: ys', x, h, h', h0, hy, Kx, Kr => by
  have := drop_nil h h0; have := (drop_cons h' h0).1; omega
 | y :: ys, [], x, h, h', h0, hy, Kx, Kr => by
  have := drop_nil h' h0; have := (drop_cons h h0).1; omega
 | y :: ys, y' :: ys', x, h, h', h0, hy, Kx, Kr => by
  obtain ⟨e1, e2, e3⟩ := drop_cons h h0
  obtain ⟨_, f2, f3⟩ := drop_cons h' h0
  have hy0 := hy y List.mem_cons_self
  refine Ev.suc.trans ?_
  simp (disch := first | assumption | exact hy0.1 | exact hy0.2 | exact hy0.2.1 | exact hy0.2.2 | exact hy0.2.2.1 | exact hy0.2.2.2 | omega) only [Z22.l4, Z22.l4.b, if_pos, decide_eq_true_eq, Ev.s0 Kx, Ev.s1 Kr, grd_dec2, e2, f2, wrap64, Z21_ev, Ev.iteI, Bool.not_eq_true', decide_eq_false_iff_not]
  rw [Z22_lp hl hll ys ys' (x + 1) e3 f3 (by omega) (fun y hy' => hy y (List.mem_cons_of_mem _ hy')), Ev.s0 Kx, Ev.s1 Kr]
  simp only [List.cons.injEq, Prod.ext_iff]
  (repeat' split) <;> first | rfl | (exfalso; simp_all; done)
theorem Z22_ev {l l' : List tTNode} (hl : l.length <= 1099511627776) (hy : ∀ y ∈ l, y.2.2.2.2.2.1.length <= 1099511627776 /\ y.2.2.2.2.2.2.length <= 1099511627776) (R : Nat -> Bool -> Prop) :
  Ev (fun n => Z22.c n l l' (R n)) ↔ Ev (fun n => R n (decide (l = l'))) := by
 refine Ev.suc.trans ?_
 simp (disch := omega) only [Z22.c, Z22.w, Ev.iteI, Bool.not_eq_true', decide_eq_false_iff_not, Ev.s1 R]
 split
 ·rw [decide_eq_false]; intro e; subst e; omega
 ·rw [Z22_lp hl (by omega) l l' 0 rfl rfl (by omega) hy, Ev.s1 R, Ev.s1 R]
  split
  ·rw [decide_eq_true ‹_›]
  ·rw [decide_eq_false ‹_›]
theorem eqTNodeS_of {l : List tTNode} (h : (l.length + sTNodeS l) <= 1099511627776) : ∀ y : tTNode, y ∈ l -> y.2.2.2.2.2.1.length <= 1099511627776 /\ y.2.2.2.2.2.2.length <= 1099511627776 := by
 intro y hy
 have := sTNodeS_mem hy
 exact ⟨(by omega), (by omega)⟩
theorem Z23_ev {a0 b0 : List (Int × Int × Int × Int × Int × List (Int) × List (Int))} (h0 : a0.length <= 1099511627776) (h1 : (∀ y : tTNode, y ∈ a0 -> y.2.2.2.2.2.1.length <= 1099511627776 /\ y.2.2.2.2.2.2.length <= 1099511627776)) (R : Nat -> Bool -> Prop) :
  Ev (fun n => Z23.c n a0 b0 (R n)) ↔ Ev (fun n => R n (decide (a0 = b0))) := by
 refine Ev.suc.trans ?_
 simp (disch := first | assumption | omega) only [Z23.c, Z23.w, Z22_ev, Ev.iteI, Bool.not_eq_true', decide_eq_false_iff_not, beq_eq_false_iff_ne, ne_eq, Ev.s1 R]
 (repeat' split) <;> first | (rw [decide_eq_false]; simp_all; done) | (rw [decide_eq_true]; simp_all; done)
end Go.Vsi
end

section
set_option linter.unusedVariables false
set_option linter.unusedSimpArgs false
set_option synthInstance.maxSize 4096
namespace Go.Vsi
theorem wd_of {l : List Int} (h : Gd (.sl 0 (.int .u64)) l) : Wd l := fun x hx => ⟨(h.2 x hx).1, (h.2 x hx).2⟩
theorem term_wd {t : List tTNode} (h : Gd (.sl 0 yTNode) t) (hz : t.length + sTNodeS t <= 1099511627776) : ∀ x : tTNode, x ∈ t -> Wd x.2.2.2.2.2.1 /\ x.2.2.2.2.2.2.length <= 1099511627776 :=
 fun x hx => ⟨wd_of (h.2 x hx).2.2.2.2.2.1, by have := sTNodeS_mem hx; omega⟩
end Go.Vsi
end

section
set_option linter.unusedVariables false
set_option linter.unusedSimpArgs false
set_option synthInstance.maxSize 4096
namespace Go.Vsi
theorem writeTerm_law {d : List tDecl} {t : List tTNode} (hd : Gd (.sl 0 yDecl) d) (ht : Gd (.sl 0 yTNode) t) (K : Bool -> Prop) :
  True /\ (K true -> Ev (fun n => laws_FnExactWriteTerm.c n d t K)) := by
 refine ⟨trivial, fun hK => ?_⟩
 refine Ev.succ ?_
 simp only [laws_FnExactWriteTerm.c, laws_FnExactWriteTerm.w]
 rw [Z27_ev (by omega) (by omega) hd.1 (szDeclS_gd hd)]
 simp only [Ev.iteI, decide_eq_true_eq, Ev.k]
 by_cases z1 : ((d.length + sDeclS d : Nat) : Int) <= 1048576
 ·rw [szr_ok z1, if_neg (by omega), Z31_ev (by omega) (by omega) ht.1 (szTNodeS_gd ht)]
  simp only [Ev.iteI, decide_eq_true_eq, Ev.k]
  by_cases z2 : ((t.length + sTNodeS t : Nat) : Int) <= 1048576 - ((d.length + sDeclS d : Nat) : Int)
  ·rw [szr_ok z2, if_neg (by omega)]
   have hg := term_wd ht (by omega)
   have t1 := fun R => Z35_ev (l := d) (by omega) R
   have t2 := fun R => Z39_ev (a0 := t) (by omega) R
   have s1 := fun R => writeTS_ev (d := d) (t := t) (by omega) hg R
   have s2 := fun R => writeTI_ev (d := d) (t := t) (by omega) (fun x hx => (hg x hx).1) R
   have e1 := fun R => Z19_ev (l := d) (l' := d) (by omega) R
   have e2 := fun R => Z23_ev (a0 := t) (b0 := t) (by omega) (eqTNodeS_of (by omega)) R
   simp only [laws_FnExactWriteTerm.j0, t1, t2, s1, s2, e1, e2, Ev.andI, and_self, decide_true, Bool.not_true, Bool.false_eq_true, if_false, if_true, Ev.k, beq_self_eq_true]
   exact hK
  ·rw [szr_no z2, if_pos (by omega)]; exact hK
 ·rw [szr_no z1, if_pos (by omega)]; exact hK
end Go.Vsi
end
