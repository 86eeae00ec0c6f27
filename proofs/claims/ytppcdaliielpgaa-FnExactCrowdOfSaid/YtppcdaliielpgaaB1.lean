/- What the told functions answer. No statement is proved here. -/
import Derived.Test.YtppcdaliielpgaaA1

section
set_option linter.unusedVariables false
namespace Go.Vsi
def Ev (P : Nat → Prop) : Prop := ∃ N, ∀ n, N ≤ n → P n
theorem Ev.succ {P : Nat → Prop} : Ev (fun n => P (n + 1)) → Ev P
 | ⟨N, h⟩ => ⟨N + 1, fun n hn => by obtain ⟨m, rfl⟩ : ∃ m, n = m + 1 := ⟨n - 1, by omega⟩; exact h m (by omega)⟩
theorem Ev.shift {P : Nat → Prop} : Ev P → Ev (fun n => P (n + 1))
 | ⟨N, h⟩ => ⟨N, fun n hn => h (n + 1) (by omega)⟩
theorem Ev.and {P Q : Nat → Prop} : Ev P → Ev Q → Ev (fun n => P n ∧ Q n)
 | ⟨N, h⟩, ⟨M, g⟩ => ⟨max N M, fun n hn => ⟨h n (by omega), g n (by omega)⟩⟩
theorem Ev.const {p : Prop} (h : p) : Ev (fun _ => p) := ⟨0, fun _ _ => h⟩
theorem Ev.some {P : Nat → Prop} : Ev P → ∃ n, P n
 | ⟨N, h⟩ => ⟨N, h N (Nat.le_refl _)⟩
theorem wrap64 {x : Int} (h1 : -9223372036854775808 ≤ x) (h2 : x < 9223372036854775808) : IntKind.wrap .i64 x = x := by
 simp only [IntKind.wrap, IntKind.bits, IntKind.signed, Bool.true_and]
 split <;> simp_all <;> omega
theorem wrapU {x : Int} (h1 : 0 ≤ x) (h2 : x < 18446744073709551616) : IntKind.wrap .u64 x = x := by
 simp only [IntKind.wrap, IntKind.bits, IntKind.signed, Bool.false_and]
 simp; omega
theorem wrap8 {x : Int} (h1 : 0 ≤ x) (h2 : x < 256) : IntKind.wrap .u8 x = x := by
 simp only [IntKind.wrap, IntKind.bits, IntKind.signed, Bool.false_and]
 simp; omega
theorem tdivP {x m : Int} (h : 0 ≤ x) : Int.tdiv x m = x / m := Int.tdiv_eq_ediv_of_nonneg h
theorem tmodP {x m : Int} (h : 0 ≤ x) : Int.tmod x m = x % m := Int.tmod_eq_emod_of_nonneg h
theorem fdivP {x m : Int} (h : 0 ≤ m) : Int.fdiv x m = x / m := Int.fdiv_eq_ediv_of_nonneg x h
def W (ws : List Nat) : List Int := ws.map Int.ofNat
theorem W_len (ws : List Nat) : (W ws).length = ws.length := by simp [W]
theorem W_rd (ws : List Nat) (i : Nat) : rd (W ws) i = ((ws.getD i 0 : Nat) : Int) := by
 simp only [rd, W, List.getD_eq_getElem?_getD, List.getElem?_map]
 cases ws[i]? <;> rfl
def Below (m : Nat) (ws : List Nat) : Prop := ∀ x ∈ ws, x < m
theorem W_of {m : Nat} : ∀ {l : List Int}, (∀ x ∈ l, 0 ≤ x ∧ x < (m : Int)) → ∃ ws, l = W ws ∧ Below m ws
 | [], _ => ⟨[], rfl, by simp [Below]⟩
 | x :: l, h => by
  obtain ⟨ws, rfl, hb⟩ := W_of (l := l) fun y hy => h y (by simp [hy])
  have hx := h x (by simp)
  refine ⟨x.toNat :: ws, ?_, ?_⟩
  ·simp only [W, List.map_cons, List.cons.injEq, and_true]
   show x = (x.toNat : Int); omega
  ·intro y hy
   simp only [List.mem_cons] at hy
   rcases hy with rfl | hy
   ·omega
   ·exact hb y hy
theorem Below.getD {m : Nat} {ws : List Nat} (h : Below m ws) (hm : 0 < m) (i : Nat) : ws.getD i 0 < m := by
 rw [List.getD_eq_getElem?_getD]
 cases hw : ws[i]? with
 | none => exact hm
 | some y => exact h y (List.mem_of_getElem? hw)
theorem Below.set {m : Nat} {ws : List Nat} (h : Below m ws) {i x : Nat} (hx : x < m) : Below m (ws.set i x) := by
 intro y hy
 rcases List.mem_or_eq_of_mem_set hy with h' | rfl
 ·exact h y h'
 ·exact hx
theorem and_W {a b : Nat} (ha : a < 18446744073709551616) (hb : b < 18446744073709551616) : ibits .and .u64 (a : Int) (b : Int) = ((a &&& b : Nat) : Int) := by
 have hab : a &&& b < 2 ^ 64 := Nat.and_lt_two_pow a hb
 show IntKind.wrap .u64 (((BitVec.ofInt 64 (a : Int) &&& BitVec.ofInt 64 (b : Int) : BitVec 64).toNat : Nat) : Int) = _
 rw [BitVec.toNat_and, BitVec.ofInt_natCast, BitVec.ofInt_natCast, BitVec.toNat_ofNat, BitVec.toNat_ofNat]
 rw [Nat.mod_eq_of_lt ha, Nat.mod_eq_of_lt hb]
 exact wrapU (by omega) (by omega)
theorem shr_W (a k : Nat) (hk : k ≤ 64) : Int.fdiv (a : Int) (2 ^ (Nat.min k 64)) = ((a >>> k : Nat) : Int) := by
 rw [fdivP (Int.le_of_lt (Int.pow_pos (by decide))), show Nat.min k 64 = k from Nat.min_eq_left hk, Nat.shiftRight_eq_div_pow]
 simp
def bit (ws : List Nat) (i : Nat) : Bool := (ws.getD (i / 64) 0).testBit (i % 64)
theorem bit_out {ws : List Nat} {i : Nat} (h : 64 * ws.length ≤ i) : bit ws i = false := by
 have : ws.length ≤ i / 64 := by omega
 simp [bit, List.getD_eq_getElem?_getD, List.getElem?_eq_none this]
end Go.Vsi
end

section
set_option linter.unusedVariables false
namespace Go.Vsi
theorem Ev.suc {P : Nat → Prop} : Ev P ↔ Ev (fun n => P (n + 1)) := ⟨Ev.shift, Ev.succ⟩
theorem Ev.s0 (R : Nat → Prop) : Ev (fun n => R (n + 1)) ↔ Ev (fun n => R n) := ⟨Ev.succ, Ev.shift⟩
theorem Ev.s1 {α : Type} (R : Nat → α → Prop) (a : α) : Ev (fun n => R (n + 1) a) ↔ Ev (fun n => R n a) := Ev.s0 (fun n => R n a)
theorem Ev.s2 {α β : Type} (R : Nat → α → β → Prop) (a : α) (b : β) : Ev (fun n => R (n + 1) a b) ↔ Ev (fun n => R n a b) := Ev.s0 (fun n => R n a b)
theorem Ev.s3 {α β γ : Type} (R : Nat → α → β → γ → Prop) (a : α) (b : β) (c : γ) : Ev (fun n => R (n + 1) a b c) ↔ Ev (fun n => R n a b c) := Ev.s0 (fun n => R n a b c)
theorem Ev.s4 {α β γ δ : Type} (R : Nat → α → β → γ → δ → Prop) (a : α) (b : β) (c : γ) (d : δ) : Ev (fun n => R (n + 1) a b c d) ↔ Ev (fun n => R n a b c d) := Ev.s0 (fun n => R n a b c d)
theorem Ev.s5 {α β γ δ ε : Type} (R : Nat → α → β → γ → δ → ε → Prop) (a : α) (b : β) (c : γ) (d : δ) (e : ε) : Ev (fun n => R (n + 1) a b c d e) ↔ Ev (fun n => R n a b c d e) := Ev.s0 (fun n => R n a b c d e)
theorem Ev.s8 {α β γ δ ε ζ η θ : Type} (R : Nat → α → β → γ → δ → ε → ζ → η → θ → Prop) (a : α) (b : β) (c : γ) (d : δ) (e : ε) (f : ζ) (g : η) (h : θ) : Ev (fun n => R (n + 1) a b c d e f g h) ↔ Ev (fun n => R n a b c d e f g h) := Ev.s0 (fun n => R n a b c d e f g h)
@[simp] theorem Ev.k {p : Prop} : Ev (fun _ => p) ↔ p := ⟨fun ⟨_, h⟩ => h _ (Nat.le_refl _), Ev.const⟩
@[simp] theorem Ev.iteI {c : Prop} [Decidable c] {P Q : Nat → Prop} : Ev (fun n => if c then P n else Q n) ↔ if c then Ev P else Ev Q := by
 by_cases h : c <;> simp only [h, if_true, if_false]
@[simp] theorem Ev.andI {P Q : Nat → Prop} : Ev (fun n => P n ∧ Q n) ↔ Ev P ∧ Ev Q :=
 ⟨fun ⟨N, h⟩ => ⟨⟨N, fun n hn => (h n hn).1⟩, ⟨N, fun n hn => (h n hn).2⟩⟩, fun h => Ev.and h.1 h.2⟩
theorem grd_dec {p : Prop} [Decidable p] {P : Prop} (h : p) : grd (decide p) P ↔ P := by rw [decide_eq_true h]; exact Iff.rfl
theorem grd_dec2 {p q : Prop} [Decidable p] [Decidable q] {P : Prop} (h : p ∧ q) : grd (decide p && decide q) P ↔ P := by rw [decide_eq_true h.1, decide_eq_true h.2]; exact Iff.rfl
@[simp] theorem grd_true {P : Prop} : grd true P ↔ P := Iff.rfl
theorem drop_nil {α : Type} {l : List α} {x : Int} (h : l.drop x.toNat = []) (h0 : 0 ≤ x) : (l.length : Int) ≤ x := by
 have := List.drop_eq_nil_iff.1 h; omega
theorem drop_cons {α : Type} [Inhabited α] {l ys : List α} {x : Int} {y : α} (h : l.drop x.toNat = y :: ys) (h0 : 0 ≤ x) :
  x < (l.length : Int) ∧ rd l x.toNat = y ∧ l.drop (x + 1).toNat = ys := by
 have hl : x.toNat < l.length := by
  rcases Nat.lt_or_ge x.toNat l.length with h' | h'
  ·exact h'
  ·rw [List.drop_eq_nil_of_le h'] at h; cases h
 refine ⟨by omega, ?_, ?_⟩
 ·have := List.getElem?_drop (xs := l) (i := x.toNat) (j := 0)
  rw [h] at this
  simp only [List.getElem?_cons_zero, Nat.add_zero] at this
  simp [rd, List.getD_eq_getElem?_getD, ← this]
 ·rw [show (x + 1).toNat = x.toNat + 1 from by omega, ← List.drop_drop, h]; rfl
theorem take_set {α : Type} {l : List α} {x : Int} {v : α} (h0 : 0 ≤ x) (hx : x < (l.length : Int)) : (l.set x.toNat v).take (x + 1).toNat = l.take x.toNat ++ [v] := by
 have e : (x + 1).toNat = x.toNat + 1 := by omega
 have hl : x.toNat < l.length := by omega
 rw [e, List.take_succ_eq_append_getElem (by simpa using hl), List.take_set_of_le (by omega)]
 simp
theorem ev_arg {α : Type} {R : Nat → α → Prop} {a b : α} (h : a = b) : Ev (fun n => R n a) ↔ Ev (fun n => R n b) := by rw [h]
def Gd : (t : Ty) → t.T → Prop
 | .int k, n => k.min ≤ n ∧ n ≤ k.max
 | .str, s => s.length ≤ 9223372036854775807
 | .sl _ t, l => l.length ≤ 9223372036854775807 ∧ ∀ y, y ∈ l → Gd t y
 | .prod a b, p => Gd a p.1 ∧ Gd b p.2
 | .bool, _ => True
 | .unit, _ => True
 | .ptr _ _, _ => True
def firstIx {α : Type} (p : α → Bool) : List α → Int → Int
 | [], _ => -1
 | y :: r, x => if p y = true then x else firstIx p r (x + 1)
theorem firstIx_neg {α : Type} {p : α → Bool} : ∀ {l : List α} {x : Int}, 0 ≤ x → firstIx p l x < 0 → firstIx p l x = -1
 | [], x, _, _ => rfl
 | y :: l, x, h0, h => by
  rw [firstIx] at h ⊢
  split
  ·rename_i hp; rw [if_pos hp] at h; omega
  ·rename_i hp; rw [if_neg hp] at h; exact firstIx_neg (by omega) h
theorem firstIx_any {α : Type} {p : α → Bool} : ∀ {l : List α} {x : Int}, 0 ≤ x → decide (firstIx p l x ≥ 0) = l.any p
 | [], x, _ => by simp [firstIx]
 | y :: l, x, h0 => by
  rw [firstIx, List.any_cons]
  by_cases hp : p y = true
  ·simp [hp, h0]
  ·rw [if_neg hp, firstIx_any (by omega)]
   simp only [Bool.not_eq_true] at hp
   simp [hp]
def szr (left : Int) (z : Nat) : Int := if left < z then -1 else left - z
theorem szr_neg {left : Int} {z : Nat} : szr left z < 0 ↔ left < z := by unfold szr; split <;> omega
theorem szr_ok {left : Int} {z : Nat} (h : (z : Int) ≤ left) : szr left z = left - z := by unfold szr; rw [if_neg (by omega)]
theorem szr_no {left : Int} {z : Nat} (h : ¬ (z : Int) ≤ left) : szr left z = -1 := by unfold szr; rw [if_pos (by omega)]
theorem szr_two {left : Int} {y z : Nat} (h : 0 ≤ left) (hy : ¬ szr left y < 0) : szr (szr left y) z = szr left (y + z) := by
 rw [szr_neg] at hy
 unfold szr; split <;> split <;> split <;> omega
theorem szr_back {left : Int} {y z : Nat} (h : szr left y < 0) : szr left (y + z) = -1 := by
 rw [szr_neg] at h; unfold szr; split <;> omega
theorem szr_m1 {left : Int} {z : Nat} (h : -1 ≤ left) : -1 ≤ szr left z := by unfold szr; split <;> omega
theorem szr_le' {left b : Int} {z : Nat} (h : -1 ≤ left) (h' : left ≤ b) : szr left z ≤ b := by unfold szr; split <;> omega
end Go.Vsi
end

section
set_option linter.unusedVariables false
set_option linter.unusedSimpArgs false
set_option synthInstance.maxSize 4096
namespace Go.Vsi
theorem sEqual_lp {l l' : List Int} (hl : l.length ≤ 1099511627776) (hll : l.length = l'.length) : ∀ (ys ys' : List Int) (x : Int), l.drop x.toNat = ys → l'.drop x.toNat = ys' → 0 ≤ x → ∀ (Kx : Nat → Prop) (Kr : Nat → Bool → Prop),
  (Ev (fun n => slices_Equal_uint64.l4 n l l' l.length x (Kx n) (Kr n)) ↔ if ys = ys' then Ev Kx else Ev (fun n => Kr n false))
 | [], [], x, h, h', h0, Kx, Kr => by
  have := drop_nil h h0
  refine Ev.suc.trans ?_
  simp (disch := omega) only [slices_Equal_uint64.l4, slices_Equal_uint64.l4.b, if_neg, decide_eq_true_eq, Ev.s0 Kx, if_true]
 | [], y' :: ys', x, h, h', h0, Kx, Kr => by
  have := drop_nil h h0; have := (drop_cons h' h0).1; omega
 | y :: ys, [], x, h, h', h0, Kx, Kr => by
  have := drop_nil h' h0; have := (drop_cons h h0).1; omega
 | y :: ys, y' :: ys', x, h, h', h0, Kx, Kr => by
  obtain ⟨e1, e2, e3⟩ := drop_cons h h0
  obtain ⟨_, f2, f3⟩ := drop_cons h' h0
  refine Ev.suc.trans ?_
  simp (disch := omega) only [slices_Equal_uint64.l4, slices_Equal_uint64.l4.b, if_pos, decide_eq_true_eq, Ev.s0 Kx, Ev.s1 Kr, grd_dec2, e2, f2, wrap64, Ev.iteI, Bool.not_eq_true', decide_eq_false_iff_not]
  rw [sEqual_lp hl hll ys ys' (x + 1) e3 f3 (by omega), Ev.s0 Kx, Ev.s1 Kr]
  simp only [List.cons.injEq]
  (repeat' split) <;> first | rfl | (exfalso; simp_all; done)
theorem sEqual_ev {l l' : List Int} (hl : l.length ≤ 1099511627776) (R : Nat → Bool → Prop) :
  Ev (fun n => slices_Equal_uint64.c n l l' (R n)) ↔ Ev (fun n => R n (decide (l = l'))) := by
 refine Ev.suc.trans ?_
 simp (disch := omega) only [slices_Equal_uint64.c, slices_Equal_uint64.w, Ev.iteI, Bool.not_eq_true', decide_eq_false_iff_not, Ev.s1 R]
 split
 ·rw [decide_eq_false]; intro e; subst e; omega
 ·rw [sEqual_lp hl (by omega) l l' 0 rfl rfl (by omega), Ev.s1 R, Ev.s1 R]
  split
  ·rw [decide_eq_true ‹_›]
  ·rw [decide_eq_false ‹_›]
theorem same_ev {a b : Int} {l l' : List Int} (hl : l.length ≤ 1099511627776) (R : Nat → Bool → Prop) :
  Ev (fun n => impl_Bits_same.c n a l b l' (R n)) ↔ Ev (fun n => R n (decide (a = b ∧ l = l'))) := by
 refine Ev.suc.trans ?_
 simp (disch := omega) only [impl_Bits_same.c, impl_Bits_same.w, Ev.iteI, decide_eq_true_eq, sEqual_ev, Ev.s1 R]
 split
 ·simp_all
 ·rw [decide_eq_false]; simp_all
theorem sSame_lp {a b : Int} {l l' : List Int} (hl : l.length ≤ 1099511627776) (hll : l.length = l'.length) : ∀ (ys ys' : List Int) (x : Int), l.drop x.toNat = ys → l'.drop x.toNat = ys' → 0 ≤ x → ∀ (Kx : Nat → Prop) (Kr : Nat → Bool → Prop),
  (Ev (fun n => spec_l3SameBits.l4 n a l b l' x (Kx n) (Kr n)) ↔ if ys = ys' then Ev Kx else Ev (fun n => Kr n false))
 | [], [], x, h, h', h0, Kx, Kr => by
  have := drop_nil h h0
  refine Ev.suc.trans ?_
  simp (disch := omega) only [spec_l3SameBits.l4, spec_l3SameBits.l4.b, if_neg, decide_eq_true_eq, Ev.s0 Kx, if_true]
 | [], y' :: ys', x, h, h', h0, Kx, Kr => by
  have := drop_nil h h0; have := (drop_cons h' h0).1; omega
 | y :: ys, [], x, h, h', h0, Kx, Kr => by
  have := drop_nil h' h0; have := (drop_cons h h0).1; omega
 | y :: ys, y' :: ys', x, h, h', h0, Kx, Kr => by
  obtain ⟨e1, e2, e3⟩ := drop_cons h h0
  obtain ⟨_, f2, f3⟩ := drop_cons h' h0
  refine Ev.suc.trans ?_
  simp (disch := omega) only [spec_l3SameBits.l4, spec_l3SameBits.l4.b, if_pos, decide_eq_true_eq, Ev.s0 Kx, Ev.s1 Kr, grd_dec2, e2, f2, wrap64, Ev.iteI, Bool.not_eq_true', decide_eq_false_iff_not]
  rw [sSame_lp hl hll ys ys' (x + 1) e3 f3 (by omega), Ev.s0 Kx, Ev.s1 Kr]
  simp only [List.cons.injEq]
  (repeat' split) <;> first | rfl | (exfalso; simp_all; done)
theorem sSame_ev {a b : Int} {l l' : List Int} (hl : l.length ≤ 1099511627776) (R : Nat → Bool → Prop) :
  Ev (fun n => spec_l3SameBits.c n a l b l' (R n)) ↔ Ev (fun n => R n (decide (a = b ∧ l = l'))) := by
 refine Ev.suc.trans ?_
 simp (disch := omega) only [spec_l3SameBits.c, spec_l3SameBits.w, Ev.iteI, Bool.not_eq_true', Bool.not_eq_false', decide_eq_true_eq, decide_eq_false_iff_not, Ev.s1 R]
 split
 ·split
  ·rw [decide_eq_false]; rintro ⟨_, e⟩; subst e; omega
  ·rw [sSame_lp hl (by omega) l l' 0 rfl rfl (by omega), Ev.s1 R, Ev.s1 R]
   split
   ·rw [decide_eq_true ⟨‹_›, ‹_›⟩]
   ·rw [decide_eq_false]; simp_all
 ·rw [decide_eq_false]; simp_all
theorem copyBits_ev {a : Int} {l : List Int} (hl : l.length ≤ 1099511627776) (R : Nat → Int → List Int → Prop) :
  Ev (fun n => spec_l8CopyBits.c n a l (R n)) ↔ Ev (fun n => R n a l) := by
 refine Ev.suc.trans ?_
 simp (disch := (simp only [List.length_nil]; omega)) only [spec_l8CopyBits.c, spec_l8CopyBits.w, and_self, grd_dec, List.nil_append, Ev.s2 R]
theorem sameBarS_ev {a b c d e f : Int} {l l' : List Int} (hl : l.length ≤ 1099511627776) (R : Nat → Bool → Prop) :
  Ev (fun n => spec_l9SameBar.c n a b c l d e f l' (R n)) ↔ Ev (fun n => R n (decide (((a, b, c, l) : tBar) = (d, e, f, l')))) := by
 refine Ev.suc.trans ?_
 simp (disch := omega) only [spec_l9SameBar.c, spec_l9SameBar.w, Ev.iteI, decide_eq_true_eq, sSame_ev, Ev.s1 R, Prod.mk.injEq]
 (repeat' split) <;> simp_all
def putBar (out : List tBar) (b : tBar) : List tBar := if b ∈ out then out else out ++ [b]
theorem put_lp {l : List tBar} {a b c : Int} {d : List Int} (hl : l.length ≤ 1099511627776) : ∀ (ys : List tBar) (x : Int), l.drop x.toNat = ys → 0 ≤ x → (∀ y : tBar, y ∈ ys → y.2.2.2.length ≤ 1099511627776) →
  ∀ (Kx : Nat → List tBar → Int → Int → Int → List Int → Prop) (Kr : Nat → List tBar → Prop),
  (Ev (fun n => spec_l9Put.l2 n l a b c d x (Kx n) (Kr n)) ↔ if ((a, b, c, d) : tBar) ∈ ys then Ev (fun n => Kr n l) else Ev (fun n => Kx n l a b c d))
 | [], x, h, h0, hy, Kx, Kr => by
  have := drop_nil h h0
  refine Ev.suc.trans ?_
  simp (disch := omega) only [spec_l9Put.l2, spec_l9Put.l2.b, if_neg, decide_eq_true_eq, Ev.s5 Kx, List.not_mem_nil, if_false]
 | y :: ys, x, h, h0, hy, Kx, Kr => by
  obtain ⟨e1, e2, e3⟩ := drop_cons h h0
  have hy0 := hy y List.mem_cons_self
  refine Ev.suc.trans ?_
  simp (disch := omega) only [spec_l9Put.l2, spec_l9Put.l2.b, if_pos, decide_eq_true_eq, grd_dec2, e2, wrap64, sameBarS_ev, Ev.iteI, Ev.s1 Kr]
  rw [put_lp hl ys (x + 1) e3 (by omega) (fun y hy' => hy y (List.mem_cons_of_mem _ hy')), Ev.s5 Kx, Ev.s1 Kr]
  by_cases hq : ((a, b, c, d) : tBar) = y
  ·subst hq; simp
  ·rw [if_neg (fun e => hq e.symm)]
   simp only [List.mem_cons, hq, false_or]
theorem put_ev {l : List tBar} {a b c : Int} {d : List Int} (hl : l.length ≤ 1099511627776) (hy : ∀ y : tBar, y ∈ l → y.2.2.2.length ≤ 1099511627776) (hd : d.length ≤ 1099511627776) (R : Nat → List tBar → Prop) :
  Ev (fun n => spec_l9Put.c n l a b c d (R n)) ↔ Ev (fun n => R n (putBar l (a, b, c, d))) := by
 refine Ev.suc.trans ?_
 simp (disch := (simp only [List.length_cons, List.length_nil]; omega)) only [spec_l9Put.c, spec_l9Put.w]
 rw [put_lp hl l 0 rfl (by omega) hy]
 simp (disch := first | omega | (simp only [List.length_cons, List.length_nil]; omega)) only [and_self, Ev.andI, copyBits_ev, grd_dec, Ev.s1 R, putBar]
 split <;> rfl
def Bars (l : List tBar) (k : Nat) : Prop := l.length ≤ k ∧ ∀ y : tBar, y ∈ l → y.2.2.2.length ≤ 1099511627776
theorem putBar_bars {l : List tBar} {k : Nat} {b : tBar} (h : Bars l k) (hb : b.2.2.2.length ≤ 1099511627776) : Bars (putBar l b) (k + 1) := by
 unfold putBar
 split
 ·exact ⟨by have := h.1; omega, h.2⟩
 ·refine ⟨by have := h.1; simp; omega, fun y hy => ?_⟩
  rcases List.mem_append.1 hy with hy | hy
  ·exact h.2 y hy
  ·rw [List.mem_singleton] at hy; subst hy; exact hb
end Go.Vsi
end

section
set_option linter.unusedVariables false
set_option linter.unusedSimpArgs false
set_option synthInstance.maxSize 4096
namespace Go.Vsi
def Wd (l : List Int) : Prop := ∀ x ∈ l, 0 ≤ x ∧ x ≤ 18446744073709551615
def bitsOk (w : Int) (l : List Int) : Bool := decide (1 ≤ w ∧ w ≤ 4096 ∧ (l.length : Int) = (w + 63) / 64 ∧ (w % 64 = 0 ∨ rd l (l.length - 1) / 2 ^ (w % 64).toNat = 0))
theorem bit_div {x j : Nat} : x / 2 ^ j % 2 = (x.testBit j).toNat := by
 rw [Nat.testBit, Nat.shiftRight_eq_div_pow, Nat.one_and_eq_mod_two]
 rcases Nat.mod_two_eq_zero_or_one (x / 2 ^ j) with h | h <;> simp [h]
theorem l1In_ev {a b c : Int} (R : Nat → Bool → Prop) : Ev (fun n => spec_l1In.c n a b c (R n)) ↔ Ev (fun n => R n (decide (b ≤ a ∧ a ≤ c))) := by
 refine Ev.suc.trans ?_
 simp only [spec_l1In.c, spec_l1In.w, Ev.iteI, decide_eq_true_eq, Ev.s1 R, ge_iff_le]
 split
 ·refine ev_arg ?_; rw [decide_eq_decide]; omega
 ·refine ev_arg ?_; symm; rw [decide_eq_false_iff_not]; omega
theorem inside_ev {a b c : Int} (R : Nat → Bool → Prop) : Ev (fun n => impl_inside.c n a b c (R n)) ↔ Ev (fun n => R n (decide (b ≤ a ∧ a ≤ c))) := by
 refine Ev.suc.trans ?_
 simp only [impl_inside.c, impl_inside.w, Ev.iteI, decide_eq_true_eq, Ev.s1 R, ge_iff_le]
 split
 ·refine ev_arg ?_; rw [decide_eq_decide]; omega
 ·refine ev_arg ?_; symm; rw [decide_eq_false_iff_not]; omega
theorem wordsFor_ev {a : Int} (h0 : 0 ≤ a) (h1 : a ≤ 1000000000) (R : Nat → Int → Prop) : Ev (fun n => impl_wordsFor.c n a (R n)) ↔ Ev (fun n => R n ((a + 63) / 64)) := by
 refine Ev.suc.trans ?_
 simp (disch := omega) only [impl_wordsFor.c, impl_wordsFor.w, wrap64, tdivP, Ev.s1 R]
theorem l1Bit_ev {ws : List Nat} (hw : Below 18446744073709551616 ws) {k : Nat} (hk : k < 64 * ws.length) (hl : ws.length ≤ 4096) {w : Int} (R : Nat → Int → Prop) :
  Ev (fun n => spec_l1Bit.c n w (W ws) k (R n)) ↔ Ev (fun n => R n ((bit ws k).toNat : Int)) := by
 refine Ev.suc.trans ?_
 have e : ibits .and .u64 ((ws.getD (k / 64) 0 >>> (k % 64) : Nat) : Int) 1 = (((bit ws k).toNat : Nat) : Int) := by
  have hx : ws.getD (k / 64) 0 >>> (k % 64) < 18446744073709551616 := by
   rw [Nat.shiftRight_eq_div_pow]; exact Nat.lt_of_le_of_lt (Nat.div_le_self _ _) (hw.getD (by decide) _)
  rw [show (1 : Int) = ((1 : Nat) : Int) from rfl, and_W hx (by decide), Nat.and_one_is_mod, Nat.shiftRight_eq_div_pow, bit_div]; rfl
 have e1 : Int.toNat ((k : Int) / 64) = k / 64 := by omega
 have e2 : Int.toNat ((k : Int) % 64) = k % 64 := by omega
 simp (disch := omega) only [spec_l1Bit.c, spec_l1Bit.w, W_len, tdivP, tmodP, wrap64, wrapU, grd_dec2, grd_dec, e1, e2, W_rd, shr_W, e]
 rw [wrap8 (by omega) (by cases bit ws k <;> simp), Ev.s1 R]
theorem specOk_lp {ws : List Nat} (hw : Below 18446744073709551616 ws) (hl : ws.length ≤ 4096) {w : Int} : ∀ (m k : Nat), k + m = 64 * ws.length → ∃ b : Bool, (b = true ↔ ∀ i, k ≤ i → bit ws i = false) ∧
  ∀ (Kx : Nat → Prop) (Kr : Nat → Bool → Prop), (Ev (fun n => spec_BitsOk.l4 n w (W ws) k (Kx n) (Kr n)) ↔ if b = true then Ev Kx else Ev (fun n => Kr n false))
 | 0, k, h => by
  refine ⟨true, ⟨fun _ i hi => bit_out (by omega), fun _ => rfl⟩, fun Kx Kr => ?_⟩
  refine Ev.suc.trans ?_
  simp (disch := omega) only [spec_BitsOk.l4, spec_BitsOk.l4.b, W_len, wrap64, if_neg, decide_eq_true_eq, Ev.s0 Kx, if_true]
 | m + 1, k, h => by
  obtain ⟨b, hb, kk⟩ := specOk_lp hw hl (w := w) m (k + 1) (by omega)
  refine ⟨b && !bit ws k, ?_, fun Kx Kr => ?_⟩
  ·simp only [Bool.and_eq_true, Bool.not_eq_true', hb]
   constructor
   ·rintro ⟨h1, h2⟩ i hi
    rcases Nat.lt_or_eq_of_le hi with h' | rfl
    ·exact h1 i h'
    ·exact h2
   ·exact fun h => ⟨fun i hi => h i (by omega), h k (Nat.le_refl _)⟩
  ·refine Ev.suc.trans ?_
   have e : ((k : Int) + 1) = ((k + 1 : Nat) : Int) := by omega
   simp (disch := omega) only [spec_BitsOk.l4, spec_BitsOk.l4.b, W_len, wrap64, if_pos, decide_eq_true_eq, l1Bit_ev hw _ hl, Ev.iteI, Bool.not_eq_true', decide_eq_false_iff_not, e, kk, Ev.s0 Kx, Ev.s1 Kr]
   cases bit ws k <;> simp
theorem top_last {w : Int} {ws : List Nat} (hw : Below 18446744073709551616 ws) (h1 : 1 ≤ w) (h2 : (ws.length : Int) = (w + 63) / 64) (hr : w % 64 ≠ 0) :
  ws.getD (ws.length - 1) 0 >>> (w % 64).toNat = 0 ↔ ∀ i : Nat, w ≤ i → bit ws i = false := by
 constructor
 ·intro h i hi
  by_cases ho : 64 * ws.length ≤ i
  ·exact bit_out ho
  ·have e1 : i / 64 = ws.length - 1 := by omega
   have := congrArg (fun y => Nat.testBit y (i % 64 - (w % 64).toNat)) h
   simp only [Nat.testBit_shiftRight, Nat.zero_testBit] at this
   rw [show (w % 64).toNat + (i % 64 - (w % 64).toNat) = i % 64 from by omega] at this
   rw [bit, e1]; exact this
 ·intro h
  apply Nat.eq_of_testBit_eq
  intro j
  rw [Nat.testBit_shiftRight, Nat.zero_testBit]
  by_cases hj : (w % 64).toNat + j < 64
  ·have := h (64 * (ws.length - 1) + ((w % 64).toNat + j)) (by omega)
   rw [bit, show (64 * (ws.length - 1) + ((w % 64).toNat + j)) / 64 = ws.length - 1 from by omega, show (64 * (ws.length - 1) + ((w % 64).toNat + j)) % 64 = (w % 64).toNat + j from by omega] at this
   exact this
  ·exact Nat.testBit_lt_two_pow (Nat.lt_of_lt_of_le (hw.getD (by decide) _) (Nat.pow_le_pow_right (n := 2) (by decide) (Nat.not_lt.mp hj)))
theorem bitsOk_W {w : Int} {ws : List Nat} (hw : Below 18446744073709551616 ws) : bitsOk w (W ws) = true ↔ 1 ≤ w ∧ w ≤ 4096 ∧ (ws.length : Int) = (w + 63) / 64 ∧ ∀ i : Nat, w ≤ i → bit ws i = false := by
 rw [bitsOk, decide_eq_true_eq, W_len, W_rd]
 refine ⟨fun ⟨h1, h2, h3, h4⟩ => ⟨h1, h2, h3, ?_⟩, fun ⟨h1, h2, h3, h4⟩ => ⟨h1, h2, h3, ?_⟩⟩
 ·by_cases h5 : w % 64 = 0
  ·exact fun i hi => bit_out (by omega)
  ·rcases h4 with h4 | h4
   ·exact absurd h4 h5
   ·rw [← top_last hw h1 h3 h5, Nat.shiftRight_eq_div_pow]
    exact_mod_cast h4
 ·by_cases h5 : w % 64 = 0
  ·exact Or.inl h5
  ·have := (top_last hw h1 h3 h5).2 h4
   rw [Nat.shiftRight_eq_div_pow] at this
   exact Or.inr (by exact_mod_cast this)
theorem Wd.of {l : List Int} (h : Wd l) : ∃ ws, l = W ws ∧ Below 18446744073709551616 ws := W_of fun x hx => ⟨(h x hx).1, by have := (h x hx).2; omega⟩
theorem specOk_ev {w : Int} {l : List Int} (hw : Wd l) (R : Nat → Bool → Prop) : Ev (fun n => spec_BitsOk.c n w l (R n)) ↔ Ev (fun n => R n (bitsOk w l)) := by
 obtain ⟨ws, rfl, hB⟩ := hw.of
 have hiff := bitsOk_W (w := w) hB
 refine Ev.suc.trans ?_
 simp (disch := omega) only [spec_BitsOk.c, spec_BitsOk.w, l1In_ev, Ev.iteI, Bool.not_eq_false', Bool.not_eq_true', decide_eq_true_eq, decide_eq_false_iff_not, W_len]
 by_cases h1 : 1 ≤ w ∧ w ≤ 4096
 ·rw [if_pos h1, wrap64 (x := w + 63) (by omega) (by omega), tdivP (by omega), wrap64 (by omega) (by omega)]
  by_cases h2 : (ws.length : Int) = (w + 63) / 64
  ·obtain ⟨b, hb, kk⟩ := specOk_lp hB (by omega) (w := w) (64 * ws.length - w.toNat) w.toNat (by omega)
   have e : ((w.toNat : Nat) : Int) = w := by omega
   rw [e] at kk
   rw [if_neg (by omega), kk, Ev.s1 R, Ev.s1 R]
   have : b = bitsOk w (W ws) := by
    rw [Bool.eq_iff_iff, hb, hiff]
    exact ⟨fun h => ⟨h1.1, h1.2, h2, fun i hi => h i (by omega)⟩, fun h i hi => h.2.2.2 i (by omega)⟩
   rw [← this]
   cases b <;> rfl
  ·rw [if_pos h2, Ev.s1 R]
   have : bitsOk w (W ws) = false := by
    rw [Bool.eq_false_iff]; intro h; exact h2 (hiff.1 h).2.2.1
   rw [this]
 ·rw [if_neg h1, Ev.s1 R]
  have : bitsOk w (W ws) = false := by
   rw [Bool.eq_false_iff]; intro h; exact h1 ⟨(hiff.1 h).1, (hiff.1 h).2.1⟩
  rw [this]
theorem implOk_ev {w : Int} {l : List Int} (R : Nat → Bool → Prop) : Ev (fun n => impl_BitsOk.c n w l (R n)) ↔ Ev (fun n => R n (bitsOk w l)) := by
 refine Ev.suc.trans ?_
 simp only [impl_BitsOk.c, impl_BitsOk.w, inside_ev, Ev.iteI, Ev.andI, Bool.not_eq_false', Bool.not_eq_true', decide_eq_true_eq, decide_eq_false_iff_not, Ev.s1 R, and_self]
 by_cases h1 : 1 ≤ w ∧ w ≤ 4096
 ·rw [if_pos h1]
  simp (disch := omega) only [wordsFor_ev, Ev.iteI, Bool.not_eq_true', decide_eq_false_iff_not, Ev.s1 R]
  by_cases h2 : (l.length : Int) = (w + 63) / 64
  ·rw [if_neg (by omega)]
   simp (disch := omega) only [impl_BitsOk.j0, tmodP, Ev.iteI, decide_eq_false_iff_not, wrap64, grd_dec2, grd_dec, Ev.s1 R]
   by_cases h3 : w % 64 = 0
   ·rw [if_neg (by omega), show bitsOk w l = true from by simp [bitsOk, h1, h2, h3]]
   ·rw [if_pos h3]
    refine ev_arg ?_
    have e1 : ((l.length : Int) - 1).toNat = l.length - 1 := by omega
    have e2 : Nat.min (w % 64).toNat 64 = (w % 64).toNat := Nat.min_eq_left (by omega)
    rw [e1, e2, fdivP (Int.le_of_lt (Int.pow_pos (by decide)))]
    simp [bitsOk, h1, h2, h3]
  ·rw [if_pos h2, show bitsOk w l = false from by simp [bitsOk, h2]]
 ·rw [if_neg h1, show bitsOk w l = false from by
   rw [Bool.eq_false_iff]; intro h; rw [bitsOk, decide_eq_true_eq] at h; exact h1 ⟨h.1, h.2.1⟩]
end Go.Vsi
end

section
set_option linter.unusedVariables false
set_option linter.unusedSimpArgs false
set_option synthInstance.maxSize 4096
namespace Go.Vsi
def widthsOk : List Int → Bool
 | [] => true
 | x :: r => decide (1 ≤ x ∧ x ≤ 4096) && widthsOk r
def barOk (w : List Int) (b : tBar) : Bool :=
 decide (0 ≤ b.1 ∧ b.1 ≤ (w.length : Int) - 1) && if b.2.1 = -1 then bitsOk b.2.2.1 b.2.2.2 && decide (b.2.2.1 = rd w b.1.toNat)
 else decide (0 ≤ b.2.1 ∧ b.2.1 ≤ (w.length : Int) - 1) && decide (b.2.1 ≠ b.1) && decide (rd w b.2.1.toNat = rd w b.1.toNat) && decide (b.2.2.1 = 0) && decide ((b.2.2.2.length : Int) = 0)
def barsOk (w : List Int) : List tBar → Bool
 | [] => true
 | b :: r => barOk w b && barsOk w r
def graphOk (w : List Int) (l : List tBar) : Bool := decide (w.length ≤ 200) && decide (l.length ≤ 1000) && widthsOk w && barsOk w l
theorem barsOk_all {w : List Int} : ∀ {l : List tBar}, (!(l.any fun y => !(barOk w y))) = barsOk w l
 | [] => rfl
 | b :: r => by rw [List.any_cons, Bool.not_or, Bool.not_not, barsOk_all, barsOk]
theorem barsOk_mem {w : List Int} {y : tBar} : ∀ {l : List tBar}, barsOk w l = true → y ∈ l → barOk w y = true
 | [], _, h => by cases h
 | b :: r, h, hy => by
  rw [barsOk, Bool.and_eq_true] at h
  rcases List.mem_cons.1 hy with rfl | hy
  ·exact h.1
  ·exact barsOk_mem h.2 hy
theorem barOk_ev {w : List Int} {y : tBar} (hw : w.length ≤ 1099511627776) (R : Nat → Bool → Prop) :
  Ev (fun n => impl_barOk.c n w y.1 y.2.1 y.2.2.1 y.2.2.2 (R n)) ↔ Ev (fun n => R n (barOk w y)) := by
 refine Ev.suc.trans ?_
 simp (disch := omega) only [impl_barOk.c, impl_barOk.w, wrap64, inside_ev, Ev.iteI, implOk_ev, Bool.not_eq_true', decide_eq_true_eq, decide_eq_false_iff_not, Ev.s1 R, barOk]
 by_cases h1 : 0 ≤ y.1 ∧ y.1 ≤ (w.length : Int) - 1
 rotate_left
 ·rw [if_pos h1]; simp [h1]
 rw [if_neg (fun h => h h1)]
 by_cases h2 : y.2.1 = -1
 ·rw [if_pos h2, if_pos h2]
  by_cases h3 : bitsOk y.2.2.1 y.2.2.2 = true
  ·rw [if_pos h3]
   simp (disch := omega) only [grd_dec2, Ev.s1 R]
   simp [h1, h3]
  ·rw [if_neg h3]; simp [h3]
 rw [if_neg h2, if_neg h2]
 by_cases h3 : 0 ≤ y.2.1 ∧ y.2.1 ≤ (w.length : Int) - 1
 rotate_left
 ·rw [if_neg h3]; simp [h3]
 rw [if_pos h3]
 by_cases h4 : y.2.1 = y.1
 ·rw [if_neg (fun h => h h4)]; simp [h4]
 rw [if_pos h4]
 simp (disch := omega) only [grd_dec2, Ev.iteI, decide_eq_true_eq, Ev.s1 R]
 by_cases h5 : rd w y.2.1.toNat = rd w y.1.toNat
 rotate_left
 ·rw [if_neg h5]; simp [h5]
 rw [if_pos h5]
 by_cases h6 : y.2.2.1 = 0
 ·rw [if_pos h6]; simp [h1, h3, h4, h5, h6]
 ·rw [if_neg h6]; simp [h6]
theorem graph1_ev {w : List Int} {bs : List tBar} {y : tBar} (hw : w.length ≤ 1099511627776) (R : Nat → Bool → Prop) :
  Ev (fun n => impl_GraphOk_1.c n y.1 y.2.1 y.2.2.1 y.2.2.2 (w, bs) (R n)) ↔ Ev (fun n => R n (!(barOk w y))) := by
 refine Ev.suc.trans ?_
 simp only [impl_GraphOk_1.c, impl_GraphOk_1.w]
 rw [barOk_ev hw, Ev.s1 R]
theorem slices_IndexFunc_Bar__impl_GraphOk_1_lp {l : List tBar} {w : List Int} {bs : List tBar} (hl : l.length ≤ 1099511627776) : ∀ (ys : List tBar) (x : Int), l.drop x.toNat = ys → 0 ≤ x → (∀ y : tBar, y ∈ ys → w.length ≤ 1099511627776) →
  ∀ (Kx : Nat → Prop) (Kr : Nat → Int → Prop),
  (Ev (fun n => slices_IndexFunc_Bar__impl_GraphOk_1.l2 n l (w, bs) l.length x (Kx n) (Kr n)) ↔ if firstIx (fun y => !(barOk w y)) ys x < 0 then Ev Kx else Ev (fun n => Kr n (firstIx (fun y => !(barOk w y)) ys x)))
 | [], x, h, h0, hy, Kx, Kr => by
  have := drop_nil h h0
  rw [firstIx, if_pos (by decide)]
  refine Ev.suc.trans ?_
  simp (disch := omega) only [slices_IndexFunc_Bar__impl_GraphOk_1.l2, slices_IndexFunc_Bar__impl_GraphOk_1.l2.b, if_neg, decide_eq_true_eq, Ev.s0 Kx]
 | y :: ys, x, h, h0, hy, Kx, Kr => by
  obtain ⟨e1, e2, e3⟩ := drop_cons h h0
  have hy0 := hy y List.mem_cons_self
  refine Ev.suc.trans ?_
  simp (disch := first | omega | omega) only [slices_IndexFunc_Bar__impl_GraphOk_1.l2, slices_IndexFunc_Bar__impl_GraphOk_1.l2.b, if_pos, decide_eq_true_eq, grd_dec2, e2, wrap64, Ev.s1 Kr, graph1_ev, Ev.iteI]
  rw [slices_IndexFunc_Bar__impl_GraphOk_1_lp hl ys (x + 1) e3 (by omega) (fun y hy' => hy y (List.mem_cons_of_mem _ hy')), Ev.s0 Kx, Ev.s1 Kr]
  simp only [firstIx, decide_eq_true_eq]
  split
  ·rw [if_neg (by omega)]
  ·rfl
theorem slices_IndexFunc_Bar__impl_GraphOk_1_ev {l : List tBar} {w : List Int} {bs : List tBar} (hl : l.length ≤ 1099511627776) (hy : ∀ y : tBar, y ∈ l → w.length ≤ 1099511627776) (R : Nat → Int → Prop) :
  Ev (fun n => slices_IndexFunc_Bar__impl_GraphOk_1.c n l (w, bs) (R n)) ↔ Ev (fun n => R n (firstIx (fun y => !(barOk w y)) l 0)) := by
 refine Ev.suc.trans ?_
 simp only [slices_IndexFunc_Bar__impl_GraphOk_1.c, slices_IndexFunc_Bar__impl_GraphOk_1.w]
 rw [slices_IndexFunc_Bar__impl_GraphOk_1_lp hl l 0 rfl (by omega) hy, Ev.s1 R, Ev.s1 R]
 split
 ·rw [firstIx_neg (by omega) ‹_›]
 ·rfl
theorem slices_ContainsFunc_Bar__impl_GraphOk_1_ev {l : List tBar} {w : List Int} {bs : List tBar} (hl : l.length ≤ 1099511627776) (hy : ∀ y : tBar, y ∈ l → w.length ≤ 1099511627776) (R : Nat → Bool → Prop) :
  Ev (fun n => slices_ContainsFunc_Bar__impl_GraphOk_1.c n l (w, bs) (R n)) ↔ Ev (fun n => R n (l.any fun y => !(barOk w y))) := by
 refine Ev.suc.trans ?_
 simp only [slices_ContainsFunc_Bar__impl_GraphOk_1.c, slices_ContainsFunc_Bar__impl_GraphOk_1.w]
 rw [slices_IndexFunc_Bar__impl_GraphOk_1_ev hl hy, Ev.s1 R, firstIx_any (by omega)]
theorem graphW_lp {w w' : List Int} {bs : List tBar} (hw : w.length ≤ 1099511627776) : ∀ (ys : List Int) (x : Int), w.drop x.toNat = ys → 0 ≤ x → ∀ (Kx : Nat → List Int → List tBar → Prop) (Kr : Nat → Bool → Prop),
  (Ev (fun n => impl_GraphOk.l4 n w w.length w' bs x (Kx n) (Kr n)) ↔ if widthsOk ys = true then Ev (fun n => Kx n w' bs) else Ev (fun n => Kr n false))
 | [], x, h, h0, Kx, Kr => by
  have := drop_nil h h0
  refine Ev.suc.trans ?_
  simp (disch := omega) only [impl_GraphOk.l4, impl_GraphOk.l4.b, if_neg, decide_eq_true_eq, Ev.s2 Kx, widthsOk, if_true]
 | y :: ys, x, h, h0, Kx, Kr => by
  obtain ⟨e1, e2, e3⟩ := drop_cons h h0
  refine Ev.suc.trans ?_
  simp (disch := omega) only [impl_GraphOk.l4, impl_GraphOk.l4.b, if_pos, decide_eq_true_eq, grd_dec2, e2, wrap64, inside_ev, Ev.iteI, Bool.not_eq_true', decide_eq_false_iff_not, Ev.s1 Kr]
  rw [graphW_lp hw ys (x + 1) e3 (by omega), Ev.s2 Kx, Ev.s1 Kr]
  simp only [widthsOk, Bool.and_eq_true, decide_eq_true_eq]
  by_cases h2 : 1 ≤ y ∧ y ≤ 4096
  ·rw [if_neg (fun h => h h2)]; simp only [h2, and_self, true_and]
  ·rw [if_pos h2, if_neg (fun h => h2 h.1)]
theorem graphOk_ev {w : List Int} {l : List tBar} (R : Nat → Bool → Prop) :
  Ev (fun n => impl_GraphOk.c n w l (R n)) ↔ Ev (fun n => R n (graphOk w l)) := by
 refine Ev.suc.trans ?_
 simp only [impl_GraphOk.c, impl_GraphOk.w, impl_GraphOk.j0, Ev.iteI, decide_eq_true_eq, decide_eq_false_iff_not, Bool.true_eq_false, if_true, Ev.s1 R, graphOk]
 by_cases h1 : w.length ≤ 200
 rotate_left
 ·rw [if_neg (by omega)]; simp [h1]
 rw [if_pos (by omega)]
 by_cases h2 : l.length ≤ 1000
 rotate_left
 ·rw [if_pos (by omega)]; simp [h2]
 rw [if_neg (by omega), graphW_lp (by omega) w 0 rfl (by omega), Ev.s1 R]
 simp only [h1, h2, decide_true, Bool.true_and]
 by_cases h3 : widthsOk w = true
 ·rw [if_pos h3, slices_ContainsFunc_Bar__impl_GraphOk_1_ev (by omega) (fun y _ => by omega), Ev.s1 R, barsOk_all, h3, Bool.true_and]
 ·rw [if_neg h3, show widthsOk w = false from by simpa using h3, Bool.false_and]
theorem noBits_ev {a : Int} {l : List Int} (R : Nat → Bool → Prop) :
  Ev (fun n => spec_l3NoBits.c n a l (R n)) ↔ Ev (fun n => R n (decide (a = 0) && decide ((l.length : Int) = 0))) := by
 refine Ev.suc.trans ?_
 simp only [spec_l3NoBits.c, spec_l3NoBits.w, Ev.iteI, decide_eq_true_eq, Ev.s1 R]
 split <;> simp_all
theorem graphSW_lp {w : List Int} {bs : List tBar} (hw : w.length ≤ 1099511627776) : ∀ (ys : List Int) (x : Int), w.drop x.toNat = ys → 0 ≤ x → ∀ (Kx : Nat → Int → List Int → List tBar → Prop) (Kr : Nat → Bool → Prop),
  (Ev (fun n => spec_GraphOk.l5 n w.length w bs x (Kx n) (Kr n)) ↔ if widthsOk ys = true then Ev (fun n => Kx n w.length w bs) else Ev (fun n => Kr n false))
 | [], x, h, h0, Kx, Kr => by
  have := drop_nil h h0
  refine Ev.suc.trans ?_
  simp (disch := omega) only [spec_GraphOk.l5, spec_GraphOk.l5.b, if_neg, decide_eq_true_eq, Ev.s3 Kx, widthsOk, if_true]
 | y :: ys, x, h, h0, Kx, Kr => by
  obtain ⟨e1, e2, e3⟩ := drop_cons h h0
  refine Ev.suc.trans ?_
  simp (disch := omega) only [spec_GraphOk.l5, spec_GraphOk.l5.b, if_pos, decide_eq_true_eq, grd_dec2, e2, wrap64, l1In_ev, Ev.iteI, Bool.not_eq_true', decide_eq_false_iff_not, Ev.s1 Kr]
  rw [graphSW_lp hw ys (x + 1) e3 (by omega), Ev.s3 Kx, Ev.s1 Kr]
  simp only [widthsOk, Bool.and_eq_true, decide_eq_true_eq]
  by_cases h2 : 1 ≤ y ∧ y ≤ 4096
  ·rw [if_neg (fun h => h h2)]; simp only [h2, and_self, true_and]
  ·rw [if_pos h2, if_neg (fun h => h2 h.1)]
theorem gq14_ev {a b c d e : Int} {f : Bool} {w l : List Int} {bs : List tBar} (R : Nat → Bool → Prop) (S : Nat → Int → Int → List Int → List tBar → Int → Int → Int → List Int → Prop) :
  Ev (fun n => spec_GraphOk.q14 n a b f w bs c d e l (R n) (S n)) ↔ if f = true then Ev (fun n => R n false) else Ev (fun n => S n a b w bs c d e l) := by
 refine Ev.suc.trans ?_
 simp only [spec_GraphOk.q14, spec_GraphOk.q14.b, Ev.iteI, Ev.s1 R, Ev.s8 S]
def barRest (w : List Int) (a b c : Int) (l : List Int) : Bool :=
 if b = -1 then bitsOk c l && decide (c = rd w a.toNat) else decide (rd w b.toNat = rd w a.toNat) && decide (c = 0) && decide ((l.length : Int) = 0)
theorem gq15_ev {a b c d e : Int} {w l : List Int} {bs : List tBar} (hl : Wd l) (h1 : 0 ≤ c ∧ c ≤ (w.length : Int) - 1) (h2 : -1 ≤ d ∧ d ≤ (w.length : Int) - 1) (R : Nat → Bool → Prop) (S : Nat → Int → Int → List Int → List tBar → Prop) :
  Ev (fun n => spec_GraphOk.q15 n a b w bs c d e l (R n) (S n)) ↔ if barRest w c d e l = true then Ev (fun n => S n a b w bs) else Ev (fun n => R n false) := by
 refine Ev.suc.trans ?_
 by_cases h3 : d = -1
 ·have s1 := fun (R : Nat → Bool → Prop) => specOk_ev (w := e) hl R
  simp (disch := omega) only [spec_GraphOk.q15, spec_GraphOk.q15.b, spec_GraphOk.j0, if_neg, if_pos, decide_eq_true_eq, s1, Ev.iteI, Bool.not_eq_false', grd_dec2, Bool.not_eq_true', decide_eq_false_iff_not, Ev.s1 R, Ev.s4 S, barRest, Bool.and_eq_true]
  by_cases h4 : bitsOk e l = true
  ·rw [if_pos h4]; simp only [h4, true_and, ite_not]
  ·rw [if_neg h4, if_neg (fun h => h4 h.1)]
 ·simp (disch := omega) only [spec_GraphOk.q15, spec_GraphOk.q15.b, spec_GraphOk.j0, if_neg, if_pos, decide_eq_true_eq, noBits_ev, Ev.iteI, Bool.not_eq_false', grd_dec2, Bool.not_eq_true', decide_eq_false_iff_not, Ev.s1 R, Ev.s4 S, barRest, Bool.and_eq_true]
  by_cases h4 : rd w d.toNat = rd w c.toNat
  ·rw [if_pos h4]
   by_cases h5 : (decide (e = 0) && decide ((l.length : Int) = 0)) = true
   ·rw [h5]
    rw [Bool.and_eq_true, decide_eq_true_eq, decide_eq_true_eq] at h5
    simp [h4, h5]
   ·rw [show (decide (e = 0) && decide ((l.length : Int) = 0)) = false from by simpa using h5]
    rw [Bool.and_eq_true, decide_eq_true_eq, decide_eq_true_eq] at h5
    rw [if_pos rfl, if_neg (fun h => h5 ⟨h.1.2, h.2⟩)]
  ·rw [if_neg h4, if_neg (fun h => h4 h.1.1)]
theorem barOk_rest {w : List Int} {b : tBar} : barOk w b = (decide (0 ≤ b.1 ∧ b.1 ≤ (w.length : Int) - 1) && decide (-1 ≤ b.2.1 ∧ b.2.1 ≤ (w.length : Int) - 1) && decide (b.1 ≠ b.2.1) && barRest w b.1 b.2.1 b.2.2.1 b.2.2.2) := by
 unfold barOk barRest
 by_cases h1 : 0 ≤ b.1 ∧ b.1 ≤ (w.length : Int) - 1
 rotate_left
 ·simp only [h1, decide_false, Bool.false_and]
 by_cases h2 : b.2.1 = -1
 ·rw [if_pos h2, if_pos h2, decide_eq_true (p := -1 ≤ b.2.1 ∧ b.2.1 ≤ (w.length : Int) - 1) (by omega), decide_eq_true (p := b.1 ≠ b.2.1) (by omega)]
  simp only [Bool.and_true]
 ·rw [if_neg h2, if_neg h2]
  by_cases h3 : 0 ≤ b.2.1 ∧ b.2.1 ≤ (w.length : Int) - 1
  ·rw [decide_eq_true (p := -1 ≤ b.2.1 ∧ b.2.1 ≤ (w.length : Int) - 1) (by omega), decide_eq_true h3]
   simp only [h1, and_self, decide_true, Bool.true_and, Bool.and_assoc, ne_eq]
   by_cases h4 : b.2.1 = b.1
   ·simp [h4]
   ·have h4' : ¬ b.1 = b.2.1 := fun h => h4 h.symm
    simp [h4, h4']
  ·rw [decide_eq_false h3, decide_eq_false (p := -1 ≤ b.2.1 ∧ b.2.1 ≤ (w.length : Int) - 1) (by omega)]
   simp
theorem graphSB_lp {w : List Int} {l : List tBar} (hw : w.length ≤ 1099511627776) (hl : l.length ≤ 1099511627776) : ∀ (ys : List tBar) (x : Int), l.drop x.toNat = ys → 0 ≤ x → (∀ y : tBar, y ∈ ys → Wd y.2.2.2) → ∀ (R : Nat → Bool → Prop),
  (Ev (fun n => spec_GraphOk.l10 n w.length x w l (R n true) (R n)) ↔ Ev (fun n => R n (barsOk w ys)))
 | [], x, h, h0, hy, R => by
  have := drop_nil h h0
  refine Ev.suc.trans ?_
  simp (disch := omega) only [spec_GraphOk.l10, spec_GraphOk.l10.b, if_neg, decide_eq_true_eq, Ev.s1 R, barsOk]
 | y :: ys, x, h, h0, hy, R => by
  obtain ⟨e1, e2, e3⟩ := drop_cons h h0
  have ih := fun (R : Nat → Bool → Prop) => graphSB_lp (w := w) hw hl ys (x + 1) e3 (by omega) (fun z hz => hy z (List.mem_cons_of_mem _ hz)) R
  refine Ev.suc.trans ?_
  rw [barsOk, barOk_rest]
  simp (disch := omega) only [spec_GraphOk.l10, spec_GraphOk.l10.b, if_pos, decide_eq_true_eq, grd_dec2, e2, wrap64, l1In_ev, Ev.iteI, Bool.not_eq_false']
  by_cases h1 : 0 ≤ y.1 ∧ y.1 ≤ (w.length : Int) - 1
  rotate_left
  ·rw [if_neg h1, gq14_ev, if_pos rfl, Ev.s1 R]; simp [h1]
  rw [if_pos h1]
  by_cases h2 : -1 ≤ y.2.1 ∧ y.2.1 ≤ (w.length : Int) - 1
  rotate_left
  ·rw [if_neg h2, gq14_ev, if_pos rfl, Ev.s1 R]; simp [h2]
  rw [if_pos h2, gq14_ev]
  simp only [decide_eq_true_eq]
  by_cases h3 : y.1 = y.2.1
  ·rw [if_pos h3, Ev.s1 R]; simp [h3]
  rw [if_neg h3, gq15_ev (hy y List.mem_cons_self) h1 h2]
  simp (disch := omega) only [wrap64]
  rw [ih (fun n => R (n + 1)), Ev.s1 R, Ev.s1 R]
  simp only [h1, h2, h3, and_self, decide_true, Bool.true_and, ne_eq, not_false_eq_true]
  cases barRest w y.1 y.2.1 y.2.2.1 y.2.2.2 <;> simp
theorem graphOkS_ev {w : List Int} {l : List tBar} (hy : ∀ y : tBar, y ∈ l → Wd y.2.2.2) (R : Nat → Bool → Prop) :
  Ev (fun n => spec_GraphOk.c n w l (R n)) ↔ Ev (fun n => R n (graphOk w l)) := by
 refine Ev.suc.trans ?_
 simp only [spec_GraphOk.c, spec_GraphOk.w, spec_GraphOk.j1, Ev.iteI, decide_eq_true_eq, decide_eq_false_iff_not, Bool.true_eq_false, if_true, Ev.s1 R, graphOk]
 by_cases h1 : w.length ≤ 200
 rotate_left
 ·rw [if_neg (by omega)]; simp [h1]
 rw [if_pos (by omega)]
 by_cases h2 : l.length ≤ 1000
 rotate_left
 ·rw [if_pos (by omega)]; simp [h2]
 rw [if_neg (by omega), graphSW_lp (by omega) w 0 rfl (by omega), Ev.s1 R]
 simp only [h1, h2, decide_true, Bool.true_and]
 by_cases h3 : widthsOk w = true
 ·rw [if_pos h3, graphSB_lp (by omega) (by omega) l 0 rfl (by omega) hy (fun n => R (n + 1)), Ev.s1 R, h3, Bool.true_and]
 ·rw [if_neg h3, show widthsOk w = false from by simpa using h3, Bool.false_and]
end Go.Vsi
end

section
set_option linter.unusedVariables false
set_option linter.unusedSimpArgs false
set_option synthInstance.maxSize 4096
namespace Go.Vsi
theorem has_lp {l : List Int} {a : Int} (hl : l.length ≤ 1099511627776) : ∀ (ys : List Int) (x : Int), l.drop x.toNat = ys → 0 ≤ x → ∀ (Kx : Nat → Prop) (Kr : Nat → Bool → Prop),
  (Ev (fun n => spec_l1Has.l2 n l a x (Kx n) (Kr n)) ↔ if a ∈ ys then Ev (fun n => Kr n true) else Ev Kx)
 | [], x, h, h0, Kx, Kr => by
  have := drop_nil h h0
  refine Ev.suc.trans ?_
  simp (disch := omega) only [spec_l1Has.l2, spec_l1Has.l2.b, if_neg, decide_eq_true_eq, Ev.s0 Kx, List.not_mem_nil, if_false]
 | y :: ys, x, h, h0, Kx, Kr => by
  obtain ⟨e1, e2, e3⟩ := drop_cons h h0
  refine Ev.suc.trans ?_
  simp (disch := omega) only [spec_l1Has.l2, spec_l1Has.l2.b, if_pos, decide_eq_true_eq, grd_dec2, e2, wrap64, Ev.iteI, Ev.s1 Kr]
  rw [has_lp hl ys (x + 1) e3 (by omega), Ev.s0 Kx, Ev.s1 Kr]
  by_cases hy : y = a
  ·subst hy; simp
  ·rw [if_neg hy]
   have : a ∈ y :: ys ↔ a ∈ ys := by simp [Ne.symm hy]
   simp only [this]
theorem has_ev {l : List Int} {a : Int} (hl : l.length ≤ 1099511627776) (R : Nat → Bool → Prop) :
  Ev (fun n => spec_l1Has.c n l a (R n)) ↔ Ev (fun n => R n (decide (a ∈ l))) := by
 refine Ev.suc.trans ?_
 simp only [spec_l1Has.c, spec_l1Has.w]
 rw [has_lp hl l 0 rfl (by omega) (fun n => R (n + 1) false) (fun n => R (n + 1)), Ev.s1 R, Ev.s1 R]
 by_cases h : a ∈ l
 ·rw [if_pos h, decide_eq_true h]
 ·rw [if_neg h, decide_eq_false h]
def ins (x : Int) (out : List Int) : List Int := out.filter (fun y => decide (y ≤ x)) ++ x :: out.filter (fun y => decide (x < y))
def risingGo : List Int → List Int → List Int
 | [], out => out
 | x :: r, out => risingGo r (if x ∈ out then out else ins x out)
def rising (l : List Int) : List Int := risingGo l []
def Rises (l : List Int) : Prop := l.Pairwise (· < ·)
theorem ins_rises {x : Int} {l : List Int} (h : Rises l) (hx : x ∉ l) : Rises (ins x l) := by
 unfold Rises ins
 rw [List.pairwise_append]
 refine ⟨h.filter _, ?_, ?_⟩
 ·rw [List.pairwise_cons]
  refine ⟨fun y hy => ?_, h.filter _⟩
  simpa using (List.mem_filter.1 hy).2
 ·intro a ha b hb
  have h1 := List.mem_filter.1 ha
  have h2 := h1.2
  rw [decide_eq_true_eq] at h2
  have hne : a ≠ x := by rintro rfl; exact hx h1.1
  rcases List.mem_cons.1 hb with rfl | hb
  ·omega
  ·have h3 := (List.mem_filter.1 hb).2
   rw [decide_eq_true_eq] at h3
   omega
theorem mem_ins {x y : Int} {l : List Int} : y ∈ ins x l ↔ y = x ∨ y ∈ l := by
 unfold ins
 simp only [List.mem_append, List.mem_cons, List.mem_filter, decide_eq_true_eq]
 constructor
 ·rintro (⟨h, _⟩ | h | ⟨h, _⟩)
  ·exact .inr h
  ·exact .inl h
  ·exact .inr h
 ·rintro (h | h)
  ·exact .inr (.inl h)
  ·by_cases hy : y ≤ x
   ·exact .inl ⟨h, hy⟩
   ·exact .inr (.inr ⟨h, by omega⟩)
theorem filter_two (x : Int) : ∀ l : List Int, (l.filter fun y => decide (y ≤ x)).length + (l.filter fun y => decide (x < y)).length = l.length
 | [] => rfl
 | y :: l => by
  have := filter_two x l
  by_cases h : y ≤ x
  ·have h' : ¬ x < y := by omega
   simp [h, h']; omega
  ·have h' : x < y := by omega
   simp [h, h']; omega
theorem ins_len {x : Int} {l : List Int} : (ins x l).length = l.length + 1 := by
 have := filter_two x l
 unfold ins
 rw [List.length_append, List.length_cons]; omega
theorem risingGo_rises : ∀ {l out : List Int}, Rises out → Rises (risingGo l out)
 | [], out, h => h
 | x :: l, out, h => by
  rw [risingGo]
  split
  ·exact risingGo_rises h
  ·rename_i hx; exact risingGo_rises (ins_rises h hx)
theorem mem_risingGo {y : Int} : ∀ {l out : List Int}, y ∈ risingGo l out ↔ y ∈ out ∨ y ∈ l
 | [], out => by simp [risingGo]
 | x :: l, out => by
  rw [risingGo, mem_risingGo, List.mem_cons]
  split
  ·rename_i hx
   constructor
   ·rintro (h | h); exact .inl h; exact .inr (.inr h)
   ·rintro (h | rfl | h)
    ·exact .inl h
    ·exact .inl hx
    ·exact .inr h
  ·rw [mem_ins]
   constructor
   ·rintro ((h | h) | h)
    ·exact .inr (.inl h)
    ·exact .inl h
    ·exact .inr (.inr h)
   ·rintro (h | h | h)
    ·exact .inl (.inr h)
    ·exact .inl (.inl h)
    ·exact .inr h
theorem risingGo_le : ∀ {l out : List Int}, (risingGo l out).length ≤ out.length + l.length
 | [], out => by simp [risingGo]
 | x :: l, out => by
  rw [risingGo]
  have := risingGo_le (l := l) (out := if x ∈ out then out else ins x out)
  split at this
  ·rename_i hx; rw [if_pos hx]; simp only [List.length_cons]; omega
  ·rename_i hx; rw [if_neg hx]; rw [ins_len] at this; simp only [List.length_cons]; omega
theorem rising_rises (l : List Int) : Rises (rising l) := risingGo_rises (List.Pairwise.nil)
theorem mem_rising {y : Int} {l : List Int} : y ∈ rising l ↔ y ∈ l := by rw [rising, mem_risingGo]; simp
theorem rising_le (l : List Int) : (rising l).length ≤ l.length := by have := risingGo_le (l := l) (out := []); simpa [rising] using this
theorem Rises.ext : ∀ {a b : List Int}, Rises a → Rises b → (∀ y, y ∈ a ↔ y ∈ b) → a = b
 | [], [], _, _, _ => rfl
 | [], y :: b, _, _, h => by have := (h y).2 List.mem_cons_self; cases this
 | x :: a, [], _, _, h => by have := (h x).1 List.mem_cons_self; cases this
 | x :: a, y :: b, ha, hb, h => by
  rw [Rises, List.pairwise_cons] at ha hb
  have hxy : x = y := by
   have h1 := (h x).1 List.mem_cons_self
   have h2 := (h y).2 List.mem_cons_self
   rcases List.mem_cons.1 h1 with h1 | h1
   ·exact h1
   ·rcases List.mem_cons.1 h2 with h2 | h2
    ·exact h2.symm
    ·have := ha.1 _ h2; have := hb.1 _ h1; omega
  subst hxy
  congr 1
  refine Rises.ext ha.2 hb.2 fun z => ?_
  have hz := h z
  simp only [List.mem_cons] at hz
  constructor
  ·intro hm
   rcases hz.1 (.inr hm) with rfl | h'
   ·have := ha.1 _ hm; omega
   ·exact h'
  ·intro hm
   rcases hz.2 (.inr hm) with rfl | h'
   ·have := hb.1 _ hm; omega
   ·exact h'
theorem rd_at {α : Type} [Inhabited α] {a z : List α} {v : α} {k : Int} (hk : k = (a.length : Int)) : rd (a ++ v :: z) k.toNat = v := by
 subst hk
 rw [Int.toNat_natCast, rd, List.getD_eq_getElem?_getD, List.getElem?_append_right (Nat.le_refl _), Nat.sub_self]; rfl
theorem rise_lp {l : List Int} {i x : Int} (hi0 : 0 ≤ i) (hi : i < (l.length : Int)) (hx : rd l i.toNat = x) : ∀ (m : Nat) (pre : List Int), pre.length = m → m ≤ 1099511627776 → Rises pre → ∀ (z : Int) (suf : List Int), ∃ z' : Int,
  ∀ (Kx : Nat → List Int → Int → Int → List Int → Prop), (Ev (fun n => spec_l7Rising.l8 n l i (pre.length : Int) (pre ++ z :: suf) (Kx n)) ↔
   Ev (fun n => Kx n l i ((pre.filter (fun y => decide (y ≤ x))).length : Int) (pre.filter (fun y => decide (y ≤ x)) ++ z' :: (pre.filter (fun y => decide (x < y)) ++ suf))))
 | 0, pre, hm, _, hp, z, suf => by
  have : pre = [] := List.eq_nil_of_length_eq_zero hm
  subst this
  refine ⟨z, fun Kx => ?_⟩
  refine Ev.suc.trans ?_
  simp (disch := (simp only [List.length_nil]; omega)) only [spec_l7Rising.l8, spec_l7Rising.l8.b, if_neg, decide_eq_true_eq, Ev.s4 Kx]
  simp
 | m + 1, pre, hm, hb, hp, z, suf => by
  obtain ⟨p, y, rfl⟩ : ∃ p y, pre = p ++ [y] := ⟨pre.dropLast, pre.getLast (by rintro rfl; simp at hm), (List.dropLast_concat_getLast _).symm⟩
  have hpl : p.length = m := by simpa using hm
  have hpp : Rises p := (List.pairwise_append.1 hp).1
  have hall : ∀ a ∈ p, a < y := fun a ha => (List.pairwise_append.1 hp).2.2 a ha y (by simp)
  have e1 : IntKind.wrap .i64 (((p ++ [y]).length : Int) - 1) = (p.length : Int) := by simp only [List.length_append, List.length_cons, List.length_nil]; rw [wrap64 (by omega) (by omega)]; omega
  have e2 : (p ++ [y]) ++ z :: suf = p ++ y :: (z :: suf) := by simp
  have e3 : rd ((p ++ [y]) ++ z :: suf) (p.length : Int).toNat = y := by rw [e2]; exact rd_at rfl
  have e4 : (((p ++ [y]) ++ z :: suf).length : Int) = (p.length : Int) + 1 + 1 + (suf.length : Int) := by simp; omega
  have hpos : ((p ++ [y]).length : Int) > 0 := by simp only [List.length_append, List.length_cons, List.length_nil]; omega
  by_cases h : y > x
  ·obtain ⟨z', k⟩ := rise_lp hi0 hi hx m p hpl (by omega) hpp y (y :: suf)
   refine ⟨z', fun Kx => ?_⟩
   have f1 : (p ++ [y]).filter (fun y => decide (y ≤ x)) = p.filter (fun y => decide (y ≤ x)) := by
    have : ¬ y ≤ x := by omega
    simp [List.filter_append, this]
   have f2 : (p ++ [y]).filter (fun y => decide (x < y)) = p.filter (fun y => decide (x < y)) ++ [y] := by
    have : x < y := by omega
    simp [List.filter_append, this]
   have es : List.set ((p ++ [y]) ++ z :: suf) ((p ++ [y]).length : Int).toNat y = p ++ y :: (y :: suf) := by
    rw [Int.toNat_natCast, List.set_append_right _ _ (Nat.le_refl _), Nat.sub_self, List.set_cons_zero]; simp
   rw [f1, f2]
   refine Ev.suc.trans ?_
   simp (disch := (simp only [List.length_append, List.length_cons, List.length_nil] at *; omega)) only [spec_l7Rising.l8, spec_l7Rising.l8.b, spec_l7Rising.j1, if_pos, decide_eq_true_eq, Ev.iteI, e1, e3, e4, hx, grd_dec2, es]
   rw [k, Ev.s4 Kx]
   simp
  ·have f1 : (p ++ [y]).filter (fun y => decide (y ≤ x)) = p ++ [y] := by
    rw [List.filter_eq_self]
    intro a ha
    rcases List.mem_append.1 ha with ha | ha
    ·have := hall a ha; rw [decide_eq_true_eq]; omega
    ·rw [List.mem_singleton] at ha; subst ha; rw [decide_eq_true_eq]; omega
   have f2 : (p ++ [y]).filter (fun y => decide (x < y)) = [] := by
    rw [List.filter_eq_nil_iff]
    intro a ha
    rcases List.mem_append.1 ha with ha | ha
    ·have := hall a ha; rw [decide_eq_true_eq]; omega
    ·rw [List.mem_singleton] at ha; subst ha; rw [decide_eq_true_eq]; omega
   refine ⟨z, fun Kx => ?_⟩
   rw [f1, f2, List.nil_append]
   refine Ev.suc.trans ?_
   simp (disch := (simp only [List.length_append, List.length_cons, List.length_nil] at *; omega)) only [spec_l7Rising.l8, spec_l7Rising.l8.b, if_pos, if_neg, decide_eq_true_eq, Ev.iteI, e1, e3, e4, hx, grd_dec2, Ev.s4 Kx]
theorem rising_lp {l : List Int} (hl : l.length ≤ 1048576) : ∀ (ys : List Int) (x : Int) (out : List Int), l.drop x.toNat = ys → 0 ≤ x → Rises out → out.length + ys.length ≤ 1048576 → ∀ (Kx : Nat → List Int → Prop),
  (Ev (fun n => spec_l7Rising.l3 n l x out (Kx n)) ↔ Ev (fun n => Kx n (risingGo ys out)))
 | [], x, out, h, h0, ho, hb, Kx => by
  have := drop_nil h h0
  refine Ev.suc.trans ?_
  simp (disch := omega) only [spec_l7Rising.l3, spec_l7Rising.l3.b, if_neg, decide_eq_true_eq, Ev.s1 Kx, risingGo]
 | y :: ys, x, out, h, h0, ho, hb, Kx => by
  obtain ⟨e1, e2, e3⟩ := drop_cons h h0
  rw [List.length_cons] at hb
  rw [risingGo]
  refine Ev.suc.trans ?_
  simp (disch := omega) only [spec_l7Rising.l3, spec_l7Rising.l3.b, if_pos, decide_eq_true_eq, grd_dec2, e2, wrap64, has_ev, Ev.iteI]
  by_cases hy : y ∈ out
  ·rw [if_pos hy, if_pos hy, rising_lp hl ys (x + 1) out e3 (by omega) ho (by omega), Ev.s1 Kx]
  ·rw [if_neg hy, if_neg hy]
   obtain ⟨z', k⟩ := rise_lp h0 e1 e2 out.length out rfl (by omega) ho y []
   have hf := filter_two y out
   have hins : List.set (out.filter (fun w => decide (w ≤ y)) ++ z' :: (out.filter (fun w => decide (y < w)) ++ [])) ((out.filter (fun w => decide (w ≤ y))).length : Int).toNat y = ins y out := by
    rw [Int.toNat_natCast, List.set_append_right _ _ (Nat.le_refl _), Nat.sub_self, List.set_cons_zero, List.append_nil]; rfl
   simp (disch := first | omega | (simp only [List.length_append, List.length_cons, List.length_nil]; omega)) only [grd_dec, k, grd_dec2, e2, hins, wrap64]
   rw [rising_lp hl ys (x + 1) _ e3 (by omega) (ins_rises ho hy) (by rw [ins_len]; omega), Ev.s1 Kx]
theorem rising_ev {l : List Int} (hl : l.length ≤ 1048576) (R : Nat → List Int → Prop) :
  Ev (fun n => spec_l7Rising.c n l (R n)) ↔ Ev (fun n => R n (rising l)) := by
 refine Ev.suc.trans ?_
 simp only [spec_l7Rising.c, spec_l7Rising.w]
 rw [rising_lp hl l 0 [] rfl (by omega) List.Pairwise.nil (by simpa using hl), Ev.s1 R]; rfl
end Go.Vsi
end

section
set_option linter.unusedVariables false
set_option linter.unusedSimpArgs false
set_option synthInstance.maxSize 4096
namespace Go.Vsi
theorem slices_Index_int64_lp {l : List Int} {v : Int} (hl : l.length ≤ 1099511627776) : ∀ (ys : List Int) (x : Int), l.drop x.toNat = ys → 0 ≤ x →
  ∀ (Kx : Nat → Prop) (Kr : Nat → Int → Prop),
  (Ev (fun n => slices_Index_int64.l2 n l v l.length x (Kx n) (Kr n)) ↔ if firstIx (fun y => decide (v = y)) ys x < 0 then Ev Kx else Ev (fun n => Kr n (firstIx (fun y => decide (v = y)) ys x)))
 | [], x, h, h0, Kx, Kr => by
  have := drop_nil h h0
  rw [firstIx, if_pos (by decide)]
  refine Ev.suc.trans ?_
  simp (disch := omega) only [slices_Index_int64.l2, slices_Index_int64.l2.b, if_neg, decide_eq_true_eq, Ev.s0 Kx]
 | y :: ys, x, h, h0, Kx, Kr => by
  obtain ⟨e1, e2, e3⟩ := drop_cons h h0
  refine Ev.suc.trans ?_
  simp (disch := first | omega | omega) only [slices_Index_int64.l2, slices_Index_int64.l2.b, if_pos, decide_eq_true_eq, grd_dec2, e2, wrap64, Ev.s1 Kr, Ev.s0 Kx, Ev.iteI]
  rw [slices_Index_int64_lp hl ys (x + 1) e3 (by omega), Ev.s0 Kx, Ev.s1 Kr]
  simp only [firstIx, decide_eq_true_eq]
  split
  ·rw [if_neg (by omega)]
  ·rfl
theorem slices_Index_int64_ev {l : List Int} {v : Int} (hl : l.length ≤ 1099511627776) (R : Nat → Int → Prop) :
  Ev (fun n => slices_Index_int64.c n l v (R n)) ↔ Ev (fun n => R n (firstIx (fun y => decide (v = y)) l 0)) := by
 refine Ev.suc.trans ?_
 simp only [slices_Index_int64.c, slices_Index_int64.w]
 rw [slices_Index_int64_lp hl l 0 rfl (by omega), Ev.s1 R, Ev.s1 R]
 split
 ·rw [firstIx_neg (by omega) ‹_›]
 ·rfl
theorem slices_Contains_int64_ev {l : List Int} {v : Int} (hl : l.length ≤ 1099511627776) (R : Nat → Bool → Prop) :
  Ev (fun n => slices_Contains_int64.c n l v (R n)) ↔ Ev (fun n => R n (l.any fun y => decide (v = y))) := by
 refine Ev.suc.trans ?_
 simp only [slices_Contains_int64.c, slices_Contains_int64.w]
 rw [slices_Index_int64_ev hl, Ev.s1 R, firstIx_any (by omega)]
theorem any_mem {v : Int} {l : List Int} : (l.any fun y => decide (v = y)) = decide (v ∈ l) := by
 rw [Bool.eq_iff_iff, List.any_eq_true, decide_eq_true_eq]
 constructor
 ·rintro ⟨y, hy, e⟩; rw [decide_eq_true_eq] at e; rw [e]; exact hy
 ·exact fun h => ⟨v, h, by simp⟩
theorem rd_set_if {α : Type} [Inhabited α] {l : List α} {i j : Nat} {v : α} (h : i < l.length) : rd (l.set i v) j = if j = i then v else rd l j := by
 simp only [rd, List.getD_eq_getElem?_getD, List.getElem?_set]
 by_cases hj : j = i
 ·subst hj; simp [h]
 ·rw [if_neg (fun e => hj e.symm), if_neg hj]
def addN {α : Type} [DecidableEq α] (x : α) (l : List α) : List α := if x ∈ l then l else l ++ [x]
theorem mem_addN {α : Type} [DecidableEq α] {x y : α} {l : List α} : y ∈ addN x l ↔ y = x ∨ y ∈ l := by
 unfold addN
 split
 ·rename_i h
  constructor
  ·exact .inr
  ·rintro (rfl | h'); exact h; exact h'
 ·rw [List.mem_append, List.mem_singleton, or_comm]
theorem addN_nodup {α : Type} [DecidableEq α] {x : α} {l : List α} (h : l.Nodup) : (addN x l).Nodup := by
 unfold addN
 split
 ·exact h
 ·rename_i hx
  rw [List.nodup_append]
  refine ⟨h, by simp, fun a ha b hb => ?_⟩
  rw [List.mem_singleton] at hb
  rintro rfl; exact hx (hb ▸ ha)
theorem addN_len {α : Type} [DecidableEq α] {x : α} {l : List α} : (addN x l).length ≤ l.length + 1 := by
 unfold addN; split <;> simp
def InG (n : Nat) (b : tBar) : Prop := 0 ≤ b.1 ∧ b.1 < n ∧ -1 ≤ b.2.1 ∧ b.2.1 < n ∧ b.1 ≠ b.2.1 ∧ b.2.2.2.length ≤ 1099511627776
def meet (out : List trivals) (a b : Int) : List trivals := out.set a.toNat (addN b (rd out a.toNat).1, (rd out a.toNat).2)
def rivStep (out : List trivals) (b : tBar) : List trivals :=
 if b.2.1 ≥ 0 then meet (meet out b.1 b.2.1) b.2.1 b.1 else out.set b.1.toNat ((rd out b.1.toNat).1, addN b.2.2 (rd out b.1.toNat).2)
def rivGo : List tBar → List trivals → List trivals
 | [], out => out
 | b :: r, out => rivGo r (rivStep out b)
theorem set_self {α : Type} [Inhabited α] {l : List α} {i : Nat} (h : i < l.length) : l.set i (rd l i) = l := by
 apply List.ext_getElem (by simp)
 intro j h1 h2
 rw [List.getElem_set]
 split
 ·rename_i e; subst e; simp [rd, List.getD_eq_getElem?_getD, h]
 ·rfl
def RivB (out : List trivals) (k : Nat) : Prop := ∀ i, (rd out i).1.length ≤ k ∧ (rd out i).2.length ≤ k
theorem meet_len {out : List trivals} {a b : Int} : (meet out a b).length = out.length := by simp [meet]
theorem rivStep_len {out : List trivals} {b : tBar} : (rivStep out b).length = out.length := by unfold rivStep; split <;> simp [meet]
theorem meet_rd {out : List trivals} {a b : Int} {i : Nat} (h0 : 0 ≤ a) (h : a < (out.length : Int)) : rd (meet out a b) i = if i = a.toNat then (addN b (rd out a.toNat).1, (rd out a.toNat).2) else rd out i :=
 rd_set_if (by omega)
theorem meet_B {out : List trivals} {a b : Int} {k : Nat} (h0 : 0 ≤ a) (h : a < (out.length : Int)) (hB : RivB out k) : RivB (meet out a b) (k + 1) := fun i => by
 rw [meet_rd h0 h]
 split
 ·have := hB a.toNat; have := addN_len (x := b) (l := (rd out a.toNat).1); exact ⟨by simp only []; omega, by simp only []; omega⟩
 ·have := hB i; omega
theorem rivStep_B {out : List trivals} {b : tBar} {k : Nat} (h : InG out.length b) (hB : RivB out k) : RivB (rivStep out b) (k + 2) := by
 obtain ⟨h1, h2, h3, h4, h5, h6⟩ := h
 unfold rivStep
 split
 ·rename_i hb
  exact meet_B (by omega) (by rw [meet_len]; omega) (meet_B h1 h2 hB)
 ·intro i
  rw [rd_set_if (by omega)]
  split
  ·have := hB b.1.toNat; have := addN_len (x := b.2.2) (l := (rd out b.1.toNat).2); exact ⟨by simp only []; omega, by simp only []; omega⟩
  ·have := hB i; omega
theorem meet_ev {out : List trivals} {a b : Int} {k : Nat} (h0 : 0 ≤ a) (h : a < (out.length : Int)) (hB : RivB out k) (hk : k ≤ 1048576) (R : Nat → List trivals → Prop) :
  Ev (fun n => impl_rivalsOf_1_1.c n a b out (R n)) ↔ Ev (fun n => R n (meet out a b)) := by
 have hl := hB a.toNat
 refine Ev.suc.trans ?_
 simp (disch := first | omega | (simp only [List.length_cons, List.length_nil]; omega)) only [impl_rivalsOf_1_1.c, impl_rivalsOf_1_1.w, grd_dec2, grd_dec, decide_true, grd_true, slices_Contains_int64_ev, any_mem, Ev.iteI, Bool.not_eq_true', decide_eq_false_iff_not, and_self, Ev.andI, Ev.s1 R]
 by_cases hm : b ∈ (rd out a.toNat).1
 ·rw [if_neg (fun h => h hm), meet, addN, if_pos hm]
  rw [show ((rd out a.toNat).1, (rd out a.toNat).2) = rd out a.toNat from rfl, set_self (by omega)]
 ·rw [if_pos hm, meet, addN, if_neg hm]
theorem same1_ev {a : Int} {w : List Int} (hw : w.length ≤ 1099511627776) {y : tBits} (R : Nat → Bool → Prop) :
  Ev (fun n => impl_Bits_same.c n a w y.1 y.2 (R n)) ↔ Ev (fun n => R n (decide (((a, w) : tBits) = y))) := by
 rw [same_ev hw]
 refine ev_arg ?_
 rw [decide_eq_decide]
 constructor
 ·rintro ⟨h1, h2⟩; exact Prod.ext h1 h2
 ·rintro rfl; exact ⟨rfl, rfl⟩
theorem slices_IndexFunc_Bits__impl_Bits_same_lp {l : List tBits} {a : Int} {w : List Int} (hl : l.length ≤ 1099511627776) : ∀ (ys : List tBits) (x : Int), l.drop x.toNat = ys → 0 ≤ x → (∀ y : tBits, y ∈ ys → w.length ≤ 1099511627776) →
  ∀ (Kx : Nat → Prop) (Kr : Nat → Int → Prop),
  (Ev (fun n => slices_IndexFunc_Bits__impl_Bits_same.l2 n l a w l.length x (Kx n) (Kr n)) ↔ if firstIx (fun y => decide (((a, w) : tBits) = y)) ys x < 0 then Ev Kx else Ev (fun n => Kr n (firstIx (fun y => decide (((a, w) : tBits) = y)) ys x)))
 | [], x, h, h0, hy, Kx, Kr => by
  have := drop_nil h h0
  rw [firstIx, if_pos (by decide)]
  refine Ev.suc.trans ?_
  simp (disch := omega) only [slices_IndexFunc_Bits__impl_Bits_same.l2, slices_IndexFunc_Bits__impl_Bits_same.l2.b, if_neg, decide_eq_true_eq, Ev.s0 Kx]
 | y :: ys, x, h, h0, hy, Kx, Kr => by
  obtain ⟨e1, e2, e3⟩ := drop_cons h h0
  have hy0 := hy y List.mem_cons_self
  refine Ev.suc.trans ?_
  simp (disch := first | omega | assumption) only [slices_IndexFunc_Bits__impl_Bits_same.l2, slices_IndexFunc_Bits__impl_Bits_same.l2.b, if_pos, decide_eq_true_eq, grd_dec2, e2, wrap64, Ev.s1 Kr, same1_ev, Ev.iteI]
  rw [slices_IndexFunc_Bits__impl_Bits_same_lp hl ys (x + 1) e3 (by omega) (fun y hy' => hy y (List.mem_cons_of_mem _ hy')), Ev.s0 Kx, Ev.s1 Kr]
  simp only [firstIx, decide_eq_true_eq]
  split
  ·rw [if_neg (by omega)]
  ·rfl
theorem slices_IndexFunc_Bits__impl_Bits_same_ev {l : List tBits} {a : Int} {w : List Int} (hl : l.length ≤ 1099511627776) (hy : ∀ y : tBits, y ∈ l → w.length ≤ 1099511627776) (R : Nat → Int → Prop) :
  Ev (fun n => slices_IndexFunc_Bits__impl_Bits_same.c n l a w (R n)) ↔ Ev (fun n => R n (firstIx (fun y => decide (((a, w) : tBits) = y)) l 0)) := by
 refine Ev.suc.trans ?_
 simp only [slices_IndexFunc_Bits__impl_Bits_same.c, slices_IndexFunc_Bits__impl_Bits_same.w]
 rw [slices_IndexFunc_Bits__impl_Bits_same_lp hl l 0 rfl (by omega) hy, Ev.s1 R, Ev.s1 R]
 split
 ·rw [firstIx_neg (by omega) ‹_›]
 ·rfl
theorem slices_ContainsFunc_Bits__impl_Bits_same_ev {l : List tBits} {a : Int} {w : List Int} (hl : l.length ≤ 1099511627776) (hy : ∀ y : tBits, y ∈ l → w.length ≤ 1099511627776) (R : Nat → Bool → Prop) :
  Ev (fun n => slices_ContainsFunc_Bits__impl_Bits_same.c n l a w (R n)) ↔ Ev (fun n => R n (l.any fun y => decide (((a, w) : tBits) = y))) := by
 refine Ev.suc.trans ?_
 simp only [slices_ContainsFunc_Bits__impl_Bits_same.c, slices_ContainsFunc_Bits__impl_Bits_same.w]
 rw [slices_IndexFunc_Bits__impl_Bits_same_ev hl hy, Ev.s1 R, firstIx_any (by omega)]
theorem any_memB {v : tBits} {l : List tBits} : (l.any fun y => decide (v = y)) = decide (v ∈ l) := by
 rw [Bool.eq_iff_iff, List.any_eq_true, decide_eq_true_eq]
 constructor
 ·rintro ⟨y, hy, e⟩; rw [decide_eq_true_eq] at e; rw [e]; exact hy
 ·exact fun h => ⟨v, h, by simp⟩
theorem riv_lp {l : List tBar} (hl : l.length ≤ 1000) : ∀ (ys : List tBar) (x : Int) (out : List trivals) (k : Nat), l.drop x.toNat = ys → 0 ≤ x → (∀ b ∈ ys, InG out.length b) → RivB out k → k + 2 * ys.length ≤ 1048576 →
  ∀ (Kx : Nat → List trivals → Prop), (Ev (fun n => impl_rivalsOf.l4 n l l.length x out (Kx n)) ↔ Ev (fun n => Kx n (rivGo ys out)))
 | [], x, out, k, h, h0, hg, hB, hk, Kx => by
  have := drop_nil h h0
  refine Ev.suc.trans ?_
  simp (disch := omega) only [impl_rivalsOf.l4, impl_rivalsOf.l4.b, if_neg, decide_eq_true_eq, Ev.s1 Kx, rivGo]
 | b :: ys, x, out, k, h, h0, hg, hB, hk, Kx => by
  obtain ⟨e1, e2, e3⟩ := drop_cons h h0
  rw [List.length_cons] at hk
  have hb := hg b List.mem_cons_self
  obtain ⟨b1, b2, b3, b4, b5, b6⟩ := id hb
  have ih := riv_lp hl ys (x + 1) (rivStep out b) (k + 2) e3 (by omega) (fun c hc => by rw [rivStep_len]; exact hg c (List.mem_cons_of_mem _ hc)) (rivStep_B hb hB) (by omega) (fun n => Kx (n + 1))
  have hr := hB b.1.toNat
  refine Ev.suc.trans ?_
  simp (disch := omega) only [impl_rivalsOf.l4, impl_rivalsOf.l4.b, if_pos, decide_eq_true_eq, grd_dec2, e2, wrap64, Ev.iteI]
  rw [rivGo]
  by_cases hb0 : b.2.1 ≥ 0
  ·rw [if_pos hb0, meet_ev b1 b2 hB (by omega), meet_ev (by omega) (by rw [meet_len]; omega) (meet_B b1 b2 hB) (by omega)]
   rw [show meet (meet out b.1 b.2.1) b.2.1 b.1 = rivStep out b from by rw [rivStep, if_pos hb0], ih, Ev.s1 Kx]
  ·rw [if_neg hb0, slices_ContainsFunc_Bits__impl_Bits_same_ev (by omega) (fun _ _ => b6), any_memB]
   have hst : rivStep out b = out.set b.1.toNat ((rd out b.1.toNat).1, addN b.2.2 (rd out b.1.toNat).2) := by rw [rivStep, if_neg hb0]
   simp (disch := first | omega | (simp only [List.length_cons, List.length_nil]; omega)) only [grd_dec, grd_true, decide_true, and_self, Ev.andI, Ev.iteI, Bool.not_eq_true', decide_eq_false_iff_not]
   by_cases hm : b.2.2 ∈ (rd out b.1.toNat).2
   ·rw [if_neg (fun h => h hm)]
    have : out = rivStep out b := by
     rw [hst, addN, if_pos hm]
     exact (set_self (by omega)).symm
    rw [← this] at ih ⊢
    rw [ih, Ev.s1 Kx]
   ·rw [if_pos hm]
    have : out.set b.1.toNat ((rd out b.1.toNat).1, (rd out b.1.toNat).2 ++ [b.2.2]) = rivStep out b := by
     rw [hst, addN, if_neg hm]
    rw [show (((b.2.2.1, b.2.2.2) : tBits)) = b.2.2 from rfl, this, ih, Ev.s1 Kx]
theorem rivals_ev {w : List Int} {l : List tBar} (hw : w.length ≤ 200) (hl : l.length ≤ 1000) (hg : ∀ b ∈ l, InG w.length b) (R : Nat → List trivals → Prop) :
  Ev (fun n => impl_rivalsOf.c n w l (R n)) ↔ Ev (fun n => R n (rivGo l (List.replicate w.length ([], [])))) := by
 refine Ev.suc.trans ?_
 simp (disch := omega) only [impl_rivalsOf.c, impl_rivalsOf.w, grd_dec2, decide_true, Bool.and_true, Int.toNat_natCast]
 rw [riv_lp hl l 0 _ 0 rfl (by omega) (fun b hb => by rw [List.length_replicate]; exact hg b hb) (fun i => by
  simp only [rd, List.getD_eq_getElem?_getD, List.getElem?_replicate]
  split <;> simp [default]) (by omega), Ev.s1 R]
def nodeStep (v : Int) (p : trivals) (b : tBar) : trivals :=
 if b.2.1 ≥ 0 then (if b.1 = v then (addN b.2.1 p.1, p.2) else if b.2.1 = v then (addN b.1 p.1, p.2) else p) else if b.1 = v then (p.1, addN b.2.2 p.2) else p
theorem rivStep_rd {out : List trivals} {b : tBar} {v : Int} (hb : InG out.length b) (h0 : 0 ≤ v) (hv : v < (out.length : Int)) : rd (rivStep out b) v.toNat = nodeStep v (rd out v.toNat) b := by
 obtain ⟨b1, b2, b3, b4, b5, b6⟩ := hb
 unfold rivStep nodeStep
 by_cases hb0 : b.2.1 ≥ 0
 ·rw [if_pos hb0, if_pos hb0, meet_rd hb0 (by rw [meet_len]; omega), meet_rd b1 b2, meet_rd b1 b2]
  by_cases h1 : b.1 = v
  ·subst h1
   rw [if_neg (by omega), if_pos rfl, if_pos rfl]
  ·rw [if_neg h1]
   by_cases h2 : b.2.1 = v
   ·subst h2
    rw [if_pos rfl, if_neg (by omega), if_pos rfl]
   ·rw [if_neg (by omega), if_neg (by omega), if_neg h2]
 ·rw [if_neg hb0, if_neg hb0, rd_set_if (by omega)]
  by_cases h1 : b.1 = v
  ·subst h1; rw [if_pos rfl, if_pos rfl]
  ·rw [if_neg (by omega), if_neg h1]
theorem rivGo_len : ∀ {l : List tBar} {out : List trivals}, (rivGo l out).length = out.length
 | [], _ => rfl
 | b :: l, out => by rw [rivGo, rivGo_len, rivStep_len]
theorem rivGo_rd {v : Int} (h0 : 0 ≤ v) : ∀ {l : List tBar} {out : List trivals}, (∀ b ∈ l, InG out.length b) → v < (out.length : Int) → rd (rivGo l out) v.toNat = l.foldl (nodeStep v) (rd out v.toNat)
 | [], out, _, _ => rfl
 | b :: l, out, h, hv => by
  rw [rivGo, rivGo_rd h0 (fun c hc => by rw [rivStep_len]; exact h c (List.mem_cons_of_mem _ hc)) (by rw [rivStep_len]; exact hv), List.foldl_cons, rivStep_rd (h b List.mem_cons_self) h0 hv]
def gather (v : Int) : List tBar → List Int → List tBar → List Int × List tBar
 | [], o, p => (o, p)
 | b :: r, o, p => if b.1 = v ∧ b.2.1 < 0 then gather v r o (putBar p b) else if b.1 = v then gather v r (o ++ [b.2.1]) p else if b.2.1 = v then gather v r (o ++ [b.1]) p else gather v r o p
theorem risingGo_new : ∀ {l out : List Int}, l.Nodup → (∀ x ∈ l, x ∉ out) → (risingGo l out).length = out.length + l.length
 | [], out, _, _ => by simp [risingGo]
 | x :: l, out, hn, h => by
  rw [List.nodup_cons] at hn
  rw [risingGo, if_neg (h x List.mem_cons_self), risingGo_new hn.2 (fun y hy hm => ?_), ins_len, List.length_cons]
  ·omega
  ·rcases mem_ins.1 hm with rfl | hm
   ·exact hn.1 hy
   ·exact h y (List.mem_cons_of_mem _ hy) hm
theorem rising_count {a b : List Int} (hn : a.Nodup) (h : ∀ y, y ∈ a ↔ y ∈ b) : (rising b).length = a.length := by
 have : rising b = rising a := Rises.ext (rising_rises b) (rising_rises a) fun y => by rw [mem_rising, mem_rising, h]
 rw [this, rising, risingGo_new hn (fun _ _ h => by cases h)]; simp
theorem gather_ok {v : Int} (hv : 0 ≤ v) : ∀ {l : List tBar} {o : List Int} {p : List tBar} {q : trivals}, (∀ b ∈ l, -1 ≤ b.2.1) → q.1.Nodup → (∀ y, y ∈ q.1 ↔ y ∈ o) → p = q.2.map (fun z => (v, -1, z)) →
  (rising (gather v l o p).1).length = (l.foldl (nodeStep v) q).1.length ∧ (gather v l o p).2.length = (l.foldl (nodeStep v) q).2.length
 | [], o, p, q, _, hn, h, hp => ⟨rising_count hn h, by rw [gather, hp]; simp⟩
 | b :: l, o, p, q, hb, hn, h, hp => by
  have hb0 := hb b List.mem_cons_self
  have ht := fun c hc => hb c (List.mem_cons_of_mem _ hc)
  rw [List.foldl_cons, gather]
  have app : ∀ x : Int, ∀ y, y ∈ addN x q.1 ↔ y ∈ o ++ [x] := fun x y => by
   rw [mem_addN, List.mem_append, List.mem_singleton, h, or_comm]
  by_cases h1 : b.1 = v ∧ b.2.1 < 0
  ·rw [if_pos h1]
   have e : nodeStep v q b = (q.1, addN b.2.2 q.2) := by rw [nodeStep, if_neg (by omega), if_pos h1.1]
   have eb : b = (v, -1, b.2.2) := by
    obtain ⟨x, y, z⟩ := b
    simp only at h1 hb0 ⊢
    rw [h1.1, show y = -1 from by omega]
   rw [e]
   refine gather_ok hv ht hn h ?_
   rw [hp, putBar, addN]
   have hm : b ∈ q.2.map (fun z => ((v, -1, z) : tBar)) ↔ b.2.2 ∈ q.2 := by
    rw [List.mem_map]
    constructor
    ·rintro ⟨z, hz, e⟩; rw [← e]; exact hz
    ·intro hz; exact ⟨b.2.2, hz, eb.symm⟩
   by_cases hz : b.2.2 ∈ q.2
   ·rw [if_pos (hm.2 hz), if_pos hz]
   ·rw [if_neg (fun h => hz (hm.1 h)), if_neg hz, List.map_append, List.map_singleton, ← eb]
  ·rw [if_neg h1]
   by_cases h2 : b.1 = v
   ·rw [if_pos h2]
    have e : nodeStep v q b = (addN b.2.1 q.1, q.2) := by rw [nodeStep, if_pos (by omega), if_pos h2]
    rw [e]
    exact gather_ok hv ht (addN_nodup hn) (app _) hp
   ·rw [if_neg h2]
    by_cases h3 : b.2.1 = v
    ·rw [if_pos h3]
     have e : nodeStep v q b = (addN b.1 q.1, q.2) := by rw [nodeStep, if_pos (by omega), if_neg h2, if_pos h3]
     rw [e]
     exact gather_ok hv ht (addN_nodup hn) (app _) hp
    ·rw [if_neg h3]
     have e : nodeStep v q b = q := by
      rw [nodeStep, if_neg h2, if_neg h3, if_neg h2]
      split <;> rfl
     rw [e]
     exact gather_ok hv ht hn h hp
theorem gather_lp {v : Int} {w : List Int} {l : List tBar} (hl : l.length ≤ 1000) : ∀ (ys : List tBar) (x : Int) (o : List Int) (p : List tBar) (k : Nat), l.drop x.toNat = ys → 0 ≤ x → (∀ b ∈ ys, b.2.2.2.length ≤ 1099511627776) → o.length ≤ k → Bars p k → k + ys.length ≤ 1048576 →
  ∀ (Kx : Nat → List Int → List tBar → Prop), (Ev (fun n => spec_l10Crowd.l4 n v w l x o p (Kx n)) ↔ Ev (fun n => Kx n (gather v ys o p).1 (gather v ys o p).2))
 | [], x, o, p, k, h, h0, hb, ho, hp, hk, Kx => by
  have := drop_nil h h0
  refine Ev.suc.trans ?_
  simp (disch := omega) only [spec_l10Crowd.l4, spec_l10Crowd.l4.b, if_neg, decide_eq_true_eq, Ev.s2 Kx, gather]
 | b :: ys, x, o, p, k, h, h0, hb, ho, hp, hk, Kx => by
  obtain ⟨e1, e2, e3⟩ := drop_cons h h0
  rw [List.length_cons] at hk
  have hb0 := hb b List.mem_cons_self
  have ht := fun c hc => hb c (List.mem_cons_of_mem _ hc)
  have ih := fun o p ho hp => gather_lp (v := v) (w := w) hl ys (x + 1) o p (k + 1) e3 (by omega) ht ho hp (by omega) (fun n => Kx (n + 1))
  have hpk : Bars p (k + 1) := ⟨by have := hp.1; omega, hp.2⟩
  have hp1 := hp.1
  have i1 := ih o (putBar p b) (by omega) (putBar_bars hp hb0)
  have i2 := ih (o ++ [b.2.1]) p (by simp; omega) hpk
  have i3 := ih (o ++ [b.1]) p (by simp; omega) hpk
  have i4 := ih o p (by omega) hpk
  refine Ev.suc.trans ?_
  simp (disch := first | omega | exact hp.2 | (simp only [List.length_cons, List.length_nil]; omega)) only [spec_l10Crowd.l4, spec_l10Crowd.l4.b, spec_l10Crowd.j3, if_pos, decide_eq_true_eq, grd_dec2, grd_dec, e2, wrap64, Ev.iteI, put_ev, Bool.false_eq_true, if_false]
  rw [gather]
  by_cases h1 : b.1 = v
  ·rw [if_pos h1]
   by_cases h2 : b.2.1 < 0
   ·rw [if_pos h2, if_pos ⟨h1, h2⟩, put_ev (by omega) hp.2 hb0]
    exact i1.trans (Ev.s2 Kx _ _)
   ·rw [if_neg h2, if_neg (fun h => h2 h.2), if_pos h1]
    exact i2.trans (Ev.s2 Kx _ _)
  ·rw [if_neg h1, if_neg (show ¬ (b.1 = v ∧ b.2.1 < 0) from fun h => h1 h.1)]
   by_cases h3 : b.2.1 = v
   ·simp only [if_pos h3, if_neg h1]
    exact i3.trans (Ev.s2 Kx _ _)
   ·simp only [if_neg h3, if_neg h1]
    exact i4.trans (Ev.s2 Kx _ _)
theorem gather_le {v : Int} : ∀ {l : List tBar} {o : List Int} {p : List tBar}, (gather v l o p).1.length ≤ o.length + l.length ∧ (gather v l o p).2.length ≤ p.length + l.length
 | [], o, p => by simp [gather]
 | b :: l, o, p => by
  rw [gather]
  have hp : (putBar p b).length ≤ p.length + 1 := by unfold putBar; split <;> simp
  split
  ·have := gather_le (v := v) (l := l) (o := o) (p := putBar p b); simp only [List.length_cons]; omega
  ·split
   ·have := gather_le (v := v) (l := l) (o := o ++ [b.2.1]) (p := p); simp only [List.length_append, List.length_cons, List.length_nil] at *; omega
   ·split
    ·have := gather_le (v := v) (l := l) (o := o ++ [b.1]) (p := p); simp only [List.length_append, List.length_cons, List.length_nil] at *; omega
    ·have := gather_le (v := v) (l := l) (o := o) (p := p); simp only [List.length_cons]; omega
def crowd (v : Int) (l : List tBar) : Int := (((l.foldl (nodeStep v) ([], [])).1.length + (l.foldl (nodeStep v) ([], [])).2.length : Nat) : Int)
theorem crowdS_ev {v : Int} {w : List Int} {l : List tBar} (hv : 0 ≤ v) (hl : l.length ≤ 1000) (hb : ∀ b ∈ l, b.2.2.2.length ≤ 1099511627776 ∧ -1 ≤ b.2.1) (R : Nat → Int → Prop) :
  Ev (fun n => spec_l10Crowd.c n w l v (R n)) ↔ Ev (fun n => R n (crowd v l)) := by
 obtain ⟨g1, g2⟩ := gather_ok hv (l := l) (o := []) (p := []) (q := ([], [])) (fun b h => (hb b h).2) (by simp) (fun _ => Iff.rfl) rfl
 obtain ⟨f1, f2⟩ := gather_le (v := v) (l := l) (o := []) (p := [])
 simp only [List.length_nil, Nat.zero_add] at f1 f2
 refine Ev.suc.trans ?_
 simp only [spec_l10Crowd.c, spec_l10Crowd.w]
 rw [gather_lp hl l 0 [] [] 0 rfl (by omega) (fun b h => (hb b h).1) (by simp) ⟨by simp, fun _ h => by cases h⟩ (by omega), rising_ev (by omega)]
 have := rising_le (gather v l [] []).1
 simp (disch := omega) only [wrap64, Ev.s1 R]
 refine ev_arg ?_
 rw [crowd]; omega
theorem crowdI_ev {w : List Int} {l : List tBar} {v : Int} (hw : w.length ≤ 200) (hl : l.length ≤ 1000) (hg : ∀ b ∈ l, InG w.length b) (h0 : 0 ≤ v) (hv : v < (w.length : Int)) :
  rd (rivGo l (List.replicate w.length ([], []))) v.toNat = l.foldl (nodeStep v) ([], []) := by
 rw [rivGo_rd h0 (fun b hb => by rw [List.length_replicate]; exact hg b hb) (by simpa using hv)]
 congr 1
 simp only [rd, List.getD_eq_getElem?_getD, List.getElem?_replicate]
 rw [if_pos (by omega)]; rfl
def crowdOf (w : List Int) (l : List tBar) (v : Int) : Int := if graphOk w l = true ∧ 0 ≤ v ∧ v ≤ (w.length : Int) - 1 then crowd v l else -1
theorem inG_of {w : List Int} {l : List tBar} (h : graphOk w l = true) (hy : ∀ b ∈ l, b.2.2.2.length ≤ 1099511627776) : ∀ b ∈ l, InG w.length b := fun b hb => by
 rw [graphOk, Bool.and_eq_true] at h
 have hbk := barsOk_mem h.2 hb
 rw [barOk_rest, Bool.and_eq_true, Bool.and_eq_true, Bool.and_eq_true, decide_eq_true_eq, decide_eq_true_eq, decide_eq_true_eq] at hbk
 have h1 := hbk.1.1.1; have h2 := hbk.1.1.2; have h3 := hbk.1.2
 exact ⟨by omega, by omega, by omega, by omega, h3, hy b hb⟩
theorem graphOk_le {w : List Int} {l : List tBar} (h : graphOk w l = true) : w.length ≤ 200 ∧ l.length ≤ 1000 := by
 rw [graphOk, Bool.and_eq_true, Bool.and_eq_true, Bool.and_eq_true, decide_eq_true_eq, decide_eq_true_eq] at h
 exact ⟨h.1.1.1, h.1.1.2⟩
theorem fold_le {v : Int} : ∀ {l : List tBar} {q : trivals}, (l.foldl (nodeStep v) q).1.length ≤ q.1.length + l.length ∧ (l.foldl (nodeStep v) q).2.length ≤ q.2.length + l.length
 | [], q => by simp
 | b :: l, q => by
  rw [List.foldl_cons]
  have ih := fold_le (v := v) (l := l) (q := nodeStep v q b)
  have : (nodeStep v q b).1.length ≤ q.1.length + 1 ∧ (nodeStep v q b).2.length ≤ q.2.length + 1 := by
   unfold nodeStep
   have a1 := addN_len (x := b.2.1) (l := q.1)
   have a2 := addN_len (x := b.1) (l := q.1)
   have a3 := addN_len (x := b.2.2) (l := q.2)
   (repeat' split) <;> constructor <;> (try simp only []) <;> omega
  rw [List.length_cons]; omega
theorem crowd1_ev {p : trivals} (h1 : p.1.length ≤ 1048576) (h2 : p.2.length ≤ 1048576) (R : Nat → Int → Prop) :
  Ev (fun n => impl_rivals_crowd.c n p (R n)) ↔ Ev (fun n => R n ((p.1.length : Int) + p.2.length)) := by
 refine Ev.suc.trans ?_
 simp (disch := omega) only [impl_rivals_crowd.c, impl_rivals_crowd.w, wrap64, Ev.s1 R]
theorem crowdOf_ev {w : List Int} {l : List tBar} {v : Int} (hy : ∀ b ∈ l, b.2.2.2.length ≤ 1099511627776) (R : Nat → Int → Prop) :
  Ev (fun n => impl_CrowdOf.c n w l v (R n)) ↔ Ev (fun n => R n (crowdOf w l v)) := by
 refine Ev.suc.trans ?_
 simp only [impl_CrowdOf.c, impl_CrowdOf.w, graphOk_ev, Ev.iteI, Bool.not_eq_false', crowdOf]
 by_cases hg : graphOk w l = true
 ·obtain ⟨hw, hl⟩ := graphOk_le hg
  rw [if_pos hg, wrap64 (by omega) (by omega), inside_ev]
  simp only [impl_CrowdOf.j0, Ev.iteI, Bool.not_eq_true', decide_eq_false_iff_not, Ev.s1 R]
  by_cases hv : 0 ≤ v ∧ v ≤ (w.length : Int) - 1
  ·rw [if_neg (fun h => h hv), if_pos ⟨hg, hv⟩, rivals_ev hw hl (inG_of hg hy)]
   have hlen := rivGo_len (l := l) (out := List.replicate w.length ([], []))
   rw [List.length_replicate] at hlen
   have hf := fold_le (v := v) (l := l) (q := ([], []))
   simp only [List.length_nil, Nat.zero_add] at hf
   simp (disch := omega) only [hlen, grd_dec2]
   rw [crowdI_ev hw hl (inG_of hg hy) hv.1 (by omega)]
   rw [crowd1_ev (by omega) (by omega), Ev.s1 R]
   refine ev_arg ?_
   rw [crowd]; omega
  ·rw [if_pos hv, if_neg (fun h => hv h.2)]
 ·rw [if_neg hg, if_neg (fun h => hg h.1)]
  simp only [impl_CrowdOf.j0, if_true, Ev.s1 R]
theorem crowdOfS_ev {w : List Int} {l : List tBar} {v : Int} (hd : ∀ b ∈ l, Wd b.2.2.2) (hy : ∀ b ∈ l, b.2.2.2.length ≤ 1099511627776) (R : Nat → Int → Prop) :
  Ev (fun n => spec_CrowdOf.c n w l v (R n)) ↔ Ev (fun n => R n (crowdOf w l v)) := by
 refine Ev.suc.trans ?_
 simp only [spec_CrowdOf.c, spec_CrowdOf.w, graphOkS_ev hd, Ev.iteI, Bool.not_eq_false', crowdOf]
 by_cases hg : graphOk w l = true
 ·obtain ⟨hw, hl⟩ := graphOk_le hg
  rw [if_pos hg, wrap64 (by omega) (by omega), l1In_ev]
  simp only [Ev.iteI, Bool.not_eq_true', decide_eq_false_iff_not, Ev.s1 R]
  by_cases hv : 0 ≤ v ∧ v ≤ (w.length : Int) - 1
  ·rw [if_neg (fun h => h hv), if_pos ⟨hg, hv⟩, crowdS_ev hv.1 hl (fun b hb => ⟨hy b hb, (inG_of hg hy b hb).2.2.1⟩), Ev.s1 R]
  ·rw [if_pos hv, if_neg (fun h => hv h.2)]
 ·rw [if_neg hg, if_neg (fun h => hg h.1), Ev.s1 R]
end Go.Vsi
end

section
set_option linter.unusedVariables false
set_option linter.unusedSimpArgs false
set_option synthInstance.maxSize 4096
namespace Go.Vsi
theorem laws_szUint64S_ev {l : List Int} {left : Int} (h0 : -1 ≤ left) (h1 : left ≤ 1099511627776) (hl : l.length ≤ 9223372036854775807) (R : Nat → Int → Prop) :
  Ev (fun n => laws_szUint64S.c n l left (R n)) ↔ Ev (fun n => R n (szr left l.length)) := by
 refine Ev.suc.trans ?_
 simp (disch := omega) only [laws_szUint64S.c, laws_szUint64S.w, wrap64, Ev.iteI, decide_eq_true_eq, Ev.s1 R]
 unfold szr; split <;> split <;> first | rfl | omega | exact ev_arg (by omega)
theorem laws_szBits_ev {a0 : Int} {a1 : List Int} {left : Int} (h0 : -1 ≤ left) (h1 : left ≤ 1099511627776) (h2 : a1.length ≤ 9223372036854775807) (R : Nat → Int → Prop) :
  Ev (fun n => laws_szBits.c n a0 a1 left (R n)) ↔ Ev (fun n => R n (szr left (a1.length))) := by
 refine Ev.suc.trans ?_
 simp (disch := first | assumption | omega | exact szr_m1 (by assumption) | exact szr_le' (by assumption) (by assumption)) only [laws_szBits.c, laws_szBits.w, laws_szUint64S_ev, wrap64, Ev.iteI, decide_eq_true_eq, Ev.s1 R]
 unfold szr; (repeat' split) <;> first | rfl | (exfalso; omega) | exact ev_arg (by omega)
theorem laws_szBar_ev {a0 : Int} {a1 : Int} {a2 : Int} {a3 : List Int} {left : Int} (h0 : -1 ≤ left) (h1 : left ≤ 1099511627776) (h2 : a3.length ≤ 9223372036854775807) (R : Nat → Int → Prop) :
  Ev (fun n => laws_szBar.c n a0 a1 a2 a3 left (R n)) ↔ Ev (fun n => R n (szr left (a3.length))) := by
 refine Ev.suc.trans ?_
 simp (disch := first | assumption | omega | exact szr_m1 (by assumption) | exact szr_le' (by assumption) (by assumption)) only [laws_szBar.c, laws_szBar.w, laws_szBits_ev, wrap64, Ev.iteI, decide_eq_true_eq, Ev.s1 R]
 unfold szr; (repeat' split) <;> first | rfl | (exfalso; omega) | exact ev_arg (by omega)
def sBarS : List tBar → Nat
 | [] => 0
 | y :: r => y.2.2.2.length + sBarS r
theorem sBarS_mem {y : tBar} : ∀ {l : List tBar}, y ∈ l → y.2.2.2.length ≤ sBarS l
 | [], h => absurd h List.not_mem_nil
 | a :: l, h => by
  rw [sBarS]
  rcases List.mem_cons.1 h with rfl | h
  ·omega
  ·have := sBarS_mem h; omega
abbrev yBar : Ty := .prod (.int .i64) (.prod (.int .i64) (.prod (.int .i64) (.sl 0 (.int .u64))))
theorem laws_szBarS_lp {l : List tBar} (hl : l.length ≤ 9223372036854775807) : ∀ (ys : List tBar) (x left : Int), l.drop x.toNat = ys → 0 ≤ x → 0 ≤ left → left ≤ 1099511627776 → (∀ y ∈ ys, y.2.2.2.length ≤ 9223372036854775807) → ∀ (Kx : Nat → Int → Prop),
  (Ev (fun n => laws_szBarS.l5 n l left x (Kx n) (Kx n)) ↔ Ev (fun n => Kx n (szr left (sBarS ys))))
 | [], x, left, h, h0, h1, h2, hy, Kx => by
  have := drop_nil h h0
  refine Ev.suc.trans ?_
  simp (disch := omega) only [laws_szBarS.l5, laws_szBarS.l5.b, if_neg, decide_eq_true_eq, Ev.s1 Kx, sBarS]
  refine ev_arg ?_; unfold szr; split <;> omega
 | y :: ys, x, left, h, h0, h1, h2, hy, Kx => by
  obtain ⟨e1, e2, e3⟩ := drop_cons h h0
  have hy0 := hy y List.mem_cons_self
  refine Ev.suc.trans ?_
  simp (disch := first | assumption | exact hy0.1 | exact hy0.2 | exact hy0.2.1 | exact hy0.2.2 | exact hy0.2.2.1 | exact hy0.2.2.2 | omega) only [laws_szBarS.l5, laws_szBarS.l5.b, if_pos, decide_eq_true_eq, Ev.s1 Kx, grd_dec2, e2, laws_szBar_ev, Ev.iteI, wrap64]
  split
  ·rename_i hs
   rw [sBarS, szr_back hs]
  ·rename_i hs
   rw [laws_szBarS_lp hl ys (x + 1) _ e3 (by omega) (by omega) (szr_le' (by omega) h2) (fun y hy' => hy y (List.mem_cons_of_mem _ hy')), sBarS, szr_two h1 hs, Ev.s1 Kx]
theorem laws_szBarS_ev {l : List tBar} {left : Int} (h0 : -1 ≤ left) (h1 : left ≤ 1099511627776) (hl : l.length ≤ 9223372036854775807) (hy : ∀ y ∈ l, y.2.2.2.length ≤ 9223372036854775807) (R : Nat → Int → Prop) :
  Ev (fun n => laws_szBarS.c n l left (R n)) ↔ Ev (fun n => R n (szr left (l.length + sBarS l))) := by
 refine Ev.suc.trans ?_
 simp (disch := omega) only [laws_szBarS.c, laws_szBarS.w, wrap64, Ev.iteI, decide_eq_true_eq, Ev.s1 R]
 split
 ·refine ev_arg ?_; unfold szr; split <;> omega
 ·rw [laws_szBarS_lp hl l 0 _ rfl (by omega) (by omega) (by omega) hy, Ev.s1 R]
  refine ev_arg ?_; unfold szr; (repeat' split) <;> omega
theorem laws_toUint64S_lp {l : List Int} (hl : l.length ≤ 1048576) : ∀ (ys : List Int) (x : Int) (o : List Int), l.drop x.toNat = ys → 0 ≤ x → o.length = l.length → ∀ (Kx : Nat → List Int → Prop),
  (Ev (fun n => laws_toUint64S.l3 n l x o (Kx n)) ↔ Ev (fun n => Kx n (o.take x.toNat ++ ys)))
 | [], x, o, h, h0, ho, Kx => by
  have := drop_nil h h0
  refine Ev.suc.trans ?_
  simp (disch := omega) only [laws_toUint64S.l3, laws_toUint64S.l3.b, if_neg, decide_eq_true_eq, Ev.s1 Kx]
  rw [List.take_of_length_le (by omega), List.append_nil]
 | y :: ys, x, o, h, h0, ho, Kx => by
  obtain ⟨e1, e2, e3⟩ := drop_cons h h0
  refine Ev.suc.trans ?_
  simp (disch := omega) only [laws_toUint64S.l3, laws_toUint64S.l3.b, if_pos, decide_eq_true_eq, Ev.s1 Kx, grd_dec2, e2, wrap64]
  rw [laws_toUint64S_lp hl ys (x + 1) _ e3 (by omega) (by simpa using ho), Ev.s1 Kx, take_set (by omega) (by omega), List.append_assoc]
  rfl
theorem laws_toUint64S_ev {l : List Int} (h : l.length ≤ 1048576) (R : Nat → List Int → Prop) :
  Ev (fun n => laws_toUint64S.c n l (R n)) ↔ Ev (fun n => R n l) := by
 refine Ev.suc.trans ?_
 simp (disch := omega) only [laws_toUint64S.c, laws_toUint64S.w, grd_dec2, decide_true, Bool.and_true]
 rw [laws_toUint64S_lp (by omega) l 0 _ rfl (by omega) (by simp), Ev.s1 R]
 simp
theorem laws_toBits_ev {a0 : Int} {a1 : List Int} (h : a1.length ≤ 1048576) (R : Nat → Int → List Int → Prop) :
  Ev (fun n => laws_toBits.c n a0 a1 (R n)) ↔ Ev (fun n => R n a0 a1) := by
 refine Ev.suc.trans ?_
 simp (disch := omega) only [laws_toBits.c, laws_toBits.w, laws_toUint64S_ev, Ev.s2 R]
theorem laws_toBar_ev {a0 : Int} {a1 : Int} {a2 : Int} {a3 : List Int} (h : a3.length ≤ 1048576) (R : Nat → Int → Int → Int → List Int → Prop) :
  Ev (fun n => laws_toBar.c n a0 a1 a2 a3 (R n)) ↔ Ev (fun n => R n a0 a1 a2 a3) := by
 refine Ev.suc.trans ?_
 simp (disch := omega) only [laws_toBar.c, laws_toBar.w, laws_toBits_ev, Ev.s4 R]
theorem laws_toBarS_lp {l : List tBar} (hl : l.length ≤ 1048576) : ∀ (ys : List tBar) (x : Int) (o : List tBar), l.drop x.toNat = ys → 0 ≤ x → o.length = l.length → (∀ y ∈ ys, y.2.2.2.length ≤ 1048576) → ∀ (Kx : Nat → List tBar → Prop),
  (Ev (fun n => laws_toBarS.l3 n l x o (Kx n)) ↔ Ev (fun n => Kx n (o.take x.toNat ++ ys)))
 | [], x, o, h, h0, ho, hy, Kx => by
  have := drop_nil h h0
  refine Ev.suc.trans ?_
  simp (disch := omega) only [laws_toBarS.l3, laws_toBarS.l3.b, if_neg, decide_eq_true_eq, Ev.s1 Kx]
  rw [List.take_of_length_le (by omega), List.append_nil]
 | y :: ys, x, o, h, h0, ho, hy, Kx => by
  obtain ⟨e1, e2, e3⟩ := drop_cons h h0
  have hy0 := hy y List.mem_cons_self
  refine Ev.suc.trans ?_
  simp (disch := omega) only [laws_toBarS.l3, laws_toBarS.l3.b, if_pos, decide_eq_true_eq, Ev.s1 Kx, grd_dec2, e2, wrap64, laws_toBar_ev]
  rw [laws_toBarS_lp hl ys (x + 1) _ e3 (by omega) (by simpa using ho) (fun y hy' => hy y (List.mem_cons_of_mem _ hy')), Ev.s1 Kx, take_set (by omega) (by omega), List.append_assoc]
  rfl
theorem laws_toBarS_ev {l : List tBar} (h : (l.length + sBarS l) ≤ 1048576) (R : Nat → List tBar → Prop) :
  Ev (fun n => laws_toBarS.c n l (R n)) ↔ Ev (fun n => R n l) := by
 refine Ev.suc.trans ?_
 simp (disch := omega) only [laws_toBarS.c, laws_toBarS.w, grd_dec2, decide_true, Bool.and_true]
 rw [laws_toBarS_lp (by omega) l 0 _ rfl (by omega) (by simp) (fun y hy => by have := sBarS_mem hy; omega), Ev.s1 R]
 simp
theorem laws_eqUint64S_lp {l l' : List Int} (hl : l.length ≤ 1099511627776) (hll : l.length = l'.length) : ∀ (ys ys' : List Int) (x : Int), l.drop x.toNat = ys → l'.drop x.toNat = ys' → 0 ≤ x → ∀ (Kx : Nat → Prop) (Kr : Nat → Bool → Prop),
  (Ev (fun n => laws_eqUint64S.l4 n l l' x (Kx n) (Kr n)) ↔ if ys = ys' then Ev Kx else Ev (fun n => Kr n false))
 | [], [], x, h, h', h0, Kx, Kr => by
  have := drop_nil h h0
  refine Ev.suc.trans ?_
  simp (disch := omega) only [laws_eqUint64S.l4, laws_eqUint64S.l4.b, if_neg, decide_eq_true_eq, Ev.s0 Kx, if_true]
 | [], y' :: ys', x, h, h', h0, Kx, Kr => by
  have := drop_nil h h0; have := (drop_cons h' h0).1; omega
 | y :: ys, [], x, h, h', h0, Kx, Kr => by
  have := drop_nil h' h0; have := (drop_cons h h0).1; omega
 | y :: ys, y' :: ys', x, h, h', h0, Kx, Kr => by
  obtain ⟨e1, e2, e3⟩ := drop_cons h h0
  obtain ⟨_, f2, f3⟩ := drop_cons h' h0
  refine Ev.suc.trans ?_
  simp (disch := first | assumption | exact hy0.1 | exact hy0.2 | exact hy0.2.1 | exact hy0.2.2 | exact hy0.2.2.1 | exact hy0.2.2.2 | omega) only [laws_eqUint64S.l4, laws_eqUint64S.l4.b, if_pos, decide_eq_true_eq, Ev.s0 Kx, Ev.s1 Kr, grd_dec2, e2, f2, wrap64, Ev.iteI, Bool.not_eq_true', decide_eq_false_iff_not]
  rw [laws_eqUint64S_lp hl hll ys ys' (x + 1) e3 f3 (by omega), Ev.s0 Kx, Ev.s1 Kr]
  simp only [List.cons.injEq, Prod.ext_iff]
  (repeat' split) <;> first | rfl | (exfalso; simp_all; done)
theorem laws_eqUint64S_ev {l l' : List Int} (hl : l.length ≤ 1099511627776) (R : Nat → Bool → Prop) :
  Ev (fun n => laws_eqUint64S.c n l l' (R n)) ↔ Ev (fun n => R n (decide (l = l'))) := by
 refine Ev.suc.trans ?_
 simp (disch := omega) only [laws_eqUint64S.c, laws_eqUint64S.w, Ev.iteI, Bool.not_eq_true', decide_eq_false_iff_not, Ev.s1 R]
 split
 ·rw [decide_eq_false]; intro e; subst e; omega
 ·rw [laws_eqUint64S_lp hl (by omega) l l' 0 rfl rfl (by omega), Ev.s1 R, Ev.s1 R]
  split
  ·rw [decide_eq_true ‹_›]
  ·rw [decide_eq_false ‹_›]
theorem laws_eqBits_ev {a0 b0 : Int} {a1 b1 : List Int} (h0 : a1.length ≤ 1099511627776) (R : Nat → Bool → Prop) :
  Ev (fun n => laws_eqBits.c n a0 a1 b0 b1 (R n)) ↔ Ev (fun n => R n (decide (a0 = b0 ∧ a1 = b1))) := by
 refine Ev.suc.trans ?_
 simp (disch := first | assumption | omega) only [laws_eqBits.c, laws_eqBits.w, laws_eqUint64S_ev, Ev.iteI, Bool.not_eq_true', decide_eq_false_iff_not, beq_eq_false_iff_ne, ne_eq, Ev.s1 R]
 (repeat' split) <;> first | (rw [decide_eq_false]; simp_all; done) | (rw [decide_eq_true]; simp_all; done)
theorem laws_eqBar_ev {a0 b0 : Int} {a1 b1 : Int} {a2 b2 : Int} {a3 b3 : List Int} (h0 : a3.length ≤ 1099511627776) (R : Nat → Bool → Prop) :
  Ev (fun n => laws_eqBar.c n a0 a1 a2 a3 b0 b1 b2 b3 (R n)) ↔ Ev (fun n => R n (decide (a0 = b0 ∧ a1 = b1 ∧ a2 = b2 ∧ a3 = b3))) := by
 refine Ev.suc.trans ?_
 simp (disch := first | assumption | omega) only [laws_eqBar.c, laws_eqBar.w, laws_eqBits_ev, Ev.iteI, Bool.not_eq_true', decide_eq_false_iff_not, beq_eq_false_iff_ne, ne_eq, Ev.s1 R]
 (repeat' split) <;> first | (rw [decide_eq_false]; simp_all; done) | (rw [decide_eq_true]; simp_all; done)
theorem laws_eqBarS_lp {l l' : List tBar} (hl : l.length ≤ 1099511627776) (hll : l.length = l'.length) : ∀ (ys ys' : List tBar) (x : Int), l.drop x.toNat = ys → l'.drop x.toNat = ys' → 0 ≤ x → (∀ y ∈ ys, y.2.2.2.length ≤ 1099511627776) → ∀ (Kx : Nat → Prop) (Kr : Nat → Bool → Prop),
  (Ev (fun n => laws_eqBarS.l4 n l l' x (Kx n) (Kr n)) ↔ if ys = ys' then Ev Kx else Ev (fun n => Kr n false))
 | [], [], x, h, h', h0, hy, Kx, Kr => by
  have := drop_nil h h0
  refine Ev.suc.trans ?_
  simp (disch := omega) only [laws_eqBarS.l4, laws_eqBarS.l4.b, if_neg, decide_eq_true_eq, Ev.s0 Kx, if_true]
 | [], y' :: ys', x, h, h', h0, hy, Kx, Kr => by
  have := drop_nil h h0; have := (drop_cons h' h0).1; omega
 | y :: ys, [], x, h, h', h0, hy, Kx, Kr => by
  have := drop_nil h' h0; have := (drop_cons h h0).1; omega
 | y :: ys, y' :: ys', x, h, h', h0, hy, Kx, Kr => by
  obtain ⟨e1, e2, e3⟩ := drop_cons h h0
  obtain ⟨_, f2, f3⟩ := drop_cons h' h0
  have hy0 := hy y List.mem_cons_self
  refine Ev.suc.trans ?_
  simp (disch := first | assumption | exact hy0.1 | exact hy0.2 | exact hy0.2.1 | exact hy0.2.2 | exact hy0.2.2.1 | exact hy0.2.2.2 | omega) only [laws_eqBarS.l4, laws_eqBarS.l4.b, if_pos, decide_eq_true_eq, Ev.s0 Kx, Ev.s1 Kr, grd_dec2, e2, f2, wrap64, laws_eqBar_ev, Ev.iteI, Bool.not_eq_true', decide_eq_false_iff_not]
  rw [laws_eqBarS_lp hl hll ys ys' (x + 1) e3 f3 (by omega) (fun y hy' => hy y (List.mem_cons_of_mem _ hy')), Ev.s0 Kx, Ev.s1 Kr]
  simp only [List.cons.injEq, Prod.ext_iff]
  (repeat' split) <;> first | rfl | (exfalso; simp_all; done)
theorem laws_eqBarS_ev {l l' : List tBar} (hl : l.length ≤ 1099511627776) (hy : ∀ y ∈ l, y.2.2.2.length ≤ 1099511627776) (R : Nat → Bool → Prop) :
  Ev (fun n => laws_eqBarS.c n l l' (R n)) ↔ Ev (fun n => R n (decide (l = l'))) := by
 refine Ev.suc.trans ?_
 simp (disch := omega) only [laws_eqBarS.c, laws_eqBarS.w, Ev.iteI, Bool.not_eq_true', decide_eq_false_iff_not, Ev.s1 R]
 split
 ·rw [decide_eq_false]; intro e; subst e; omega
 ·rw [laws_eqBarS_lp hl (by omega) l l' 0 rfl rfl (by omega) hy, Ev.s1 R, Ev.s1 R]
  split
  ·rw [decide_eq_true ‹_›]
  ·rw [decide_eq_false ‹_›]
theorem eqBarS_of {l : List tBar} (h : (l.length + sBarS l) ≤ 1099511627776) : ∀ y : tBar, y ∈ l → y.2.2.2.length ≤ 1099511627776 := by
 intro y hy
 have := sBarS_mem hy
 exact (by omega)
theorem laws_szInt64S_ev {l : List Int} {left : Int} (h0 : -1 ≤ left) (h1 : left ≤ 1099511627776) (hl : l.length ≤ 9223372036854775807) (R : Nat → Int → Prop) :
  Ev (fun n => laws_szInt64S.c n l left (R n)) ↔ Ev (fun n => R n (szr left l.length)) := by
 refine Ev.suc.trans ?_
 simp (disch := omega) only [laws_szInt64S.c, laws_szInt64S.w, wrap64, Ev.iteI, decide_eq_true_eq, Ev.s1 R]
 unfold szr; split <;> split <;> first | rfl | omega | exact ev_arg (by omega)
theorem laws_szGraph_ev {a0 : List Int} {a1 : List (Int × Int × Int × List (Int))} {left : Int} (h0 : -1 ≤ left) (h1 : left ≤ 1099511627776) (h2 : a0.length ≤ 9223372036854775807) (h3 : a1.length ≤ 9223372036854775807) (h4 : (∀ y : tBar, y ∈ a1 → y.2.2.2.length ≤ 9223372036854775807)) (R : Nat → Int → Prop) :
  Ev (fun n => laws_szGraph.c n a0 a1 left (R n)) ↔ Ev (fun n => R n (szr left (a0.length + (a1.length + sBarS a1)))) := by
 refine Ev.suc.trans ?_
 simp (disch := first | assumption | omega | exact szr_m1 (by assumption) | exact szr_le' (by assumption) (by assumption)) only [laws_szGraph.c, laws_szGraph.w, laws_szBarS_ev, laws_szInt64S_ev, wrap64, Ev.iteI, decide_eq_true_eq, Ev.s1 R]
 unfold szr; (repeat' split) <;> first | rfl | (exfalso; omega) | exact ev_arg (by omega)
theorem laws_toInt64S_lp {l : List Int} (hl : l.length ≤ 1048576) : ∀ (ys : List Int) (x : Int) (o : List Int), l.drop x.toNat = ys → 0 ≤ x → o.length = l.length → ∀ (Kx : Nat → List Int → Prop),
  (Ev (fun n => laws_toInt64S.l3 n l x o (Kx n)) ↔ Ev (fun n => Kx n (o.take x.toNat ++ ys)))
 | [], x, o, h, h0, ho, Kx => by
  have := drop_nil h h0
  refine Ev.suc.trans ?_
  simp (disch := omega) only [laws_toInt64S.l3, laws_toInt64S.l3.b, if_neg, decide_eq_true_eq, Ev.s1 Kx]
  rw [List.take_of_length_le (by omega), List.append_nil]
 | y :: ys, x, o, h, h0, ho, Kx => by
  obtain ⟨e1, e2, e3⟩ := drop_cons h h0
  refine Ev.suc.trans ?_
  simp (disch := omega) only [laws_toInt64S.l3, laws_toInt64S.l3.b, if_pos, decide_eq_true_eq, Ev.s1 Kx, grd_dec2, e2, wrap64]
  rw [laws_toInt64S_lp hl ys (x + 1) _ e3 (by omega) (by simpa using ho), Ev.s1 Kx, take_set (by omega) (by omega), List.append_assoc]
  rfl
theorem laws_toInt64S_ev {l : List Int} (h : l.length ≤ 1048576) (R : Nat → List Int → Prop) :
  Ev (fun n => laws_toInt64S.c n l (R n)) ↔ Ev (fun n => R n l) := by
 refine Ev.suc.trans ?_
 simp (disch := omega) only [laws_toInt64S.c, laws_toInt64S.w, grd_dec2, decide_true, Bool.and_true]
 rw [laws_toInt64S_lp (by omega) l 0 _ rfl (by omega) (by simp), Ev.s1 R]
 simp
theorem laws_toGraph_ev {a0 : List Int} {a1 : List (Int × Int × Int × List (Int))} (h : a0.length + (a1.length + sBarS a1) ≤ 1048576) (R : Nat → List Int → List (Int × Int × Int × List (Int)) → Prop) :
  Ev (fun n => laws_toGraph.c n a0 a1 (R n)) ↔ Ev (fun n => R n a0 a1) := by
 refine Ev.suc.trans ?_
 simp (disch := omega) only [laws_toGraph.c, laws_toGraph.w, laws_toBarS_ev, laws_toInt64S_ev, Ev.s2 R]
theorem laws_eqInt64S_lp {l l' : List Int} (hl : l.length ≤ 1099511627776) (hll : l.length = l'.length) : ∀ (ys ys' : List Int) (x : Int), l.drop x.toNat = ys → l'.drop x.toNat = ys' → 0 ≤ x → ∀ (Kx : Nat → Prop) (Kr : Nat → Bool → Prop),
  (Ev (fun n => laws_eqInt64S.l4 n l l' x (Kx n) (Kr n)) ↔ if ys = ys' then Ev Kx else Ev (fun n => Kr n false))
 | [], [], x, h, h', h0, Kx, Kr => by
  have := drop_nil h h0
  refine Ev.suc.trans ?_
  simp (disch := omega) only [laws_eqInt64S.l4, laws_eqInt64S.l4.b, if_neg, decide_eq_true_eq, Ev.s0 Kx, if_true]
 | [], y' :: ys', x, h, h', h0, Kx, Kr => by
  have := drop_nil h h0; have := (drop_cons h' h0).1; omega
 | y :: ys, [], x, h, h', h0, Kx, Kr => by
  have := drop_nil h' h0; have := (drop_cons h h0).1; omega
 | y :: ys, y' :: ys', x, h, h', h0, Kx, Kr => by
  obtain ⟨e1, e2, e3⟩ := drop_cons h h0
  obtain ⟨_, f2, f3⟩ := drop_cons h' h0
  refine Ev.suc.trans ?_
  simp (disch := first | assumption | exact hy0.1 | exact hy0.2 | exact hy0.2.1 | exact hy0.2.2 | exact hy0.2.2.1 | exact hy0.2.2.2 | omega) only [laws_eqInt64S.l4, laws_eqInt64S.l4.b, if_pos, decide_eq_true_eq, Ev.s0 Kx, Ev.s1 Kr, grd_dec2, e2, f2, wrap64, Ev.iteI, Bool.not_eq_true', decide_eq_false_iff_not]
  rw [laws_eqInt64S_lp hl hll ys ys' (x + 1) e3 f3 (by omega), Ev.s0 Kx, Ev.s1 Kr]
  simp only [List.cons.injEq, Prod.ext_iff]
  (repeat' split) <;> first | rfl | (exfalso; simp_all; done)
theorem laws_eqInt64S_ev {l l' : List Int} (hl : l.length ≤ 1099511627776) (R : Nat → Bool → Prop) :
  Ev (fun n => laws_eqInt64S.c n l l' (R n)) ↔ Ev (fun n => R n (decide (l = l'))) := by
 refine Ev.suc.trans ?_
 simp (disch := omega) only [laws_eqInt64S.c, laws_eqInt64S.w, Ev.iteI, Bool.not_eq_true', decide_eq_false_iff_not, Ev.s1 R]
 split
 ·rw [decide_eq_false]; intro e; subst e; omega
 ·rw [laws_eqInt64S_lp hl (by omega) l l' 0 rfl rfl (by omega), Ev.s1 R, Ev.s1 R]
  split
  ·rw [decide_eq_true ‹_›]
  ·rw [decide_eq_false ‹_›]
theorem laws_eqGraph_ev {a0 b0 : List Int} {a1 b1 : List (Int × Int × Int × List (Int))} (h0 : a0.length ≤ 1099511627776) (h1 : a1.length ≤ 1099511627776) (h2 : (∀ y : tBar, y ∈ a1 → y.2.2.2.length ≤ 1099511627776)) (R : Nat → Bool → Prop) :
  Ev (fun n => laws_eqGraph.c n a0 a1 b0 b1 (R n)) ↔ Ev (fun n => R n (decide (a0 = b0 ∧ a1 = b1))) := by
 refine Ev.suc.trans ?_
 simp (disch := first | assumption | omega) only [laws_eqGraph.c, laws_eqGraph.w, laws_eqBarS_ev, laws_eqInt64S_ev, Ev.iteI, Bool.not_eq_true', decide_eq_false_iff_not, beq_eq_false_iff_ne, ne_eq, Ev.s1 R]
 (repeat' split) <;> first | (rw [decide_eq_false]; simp_all; done) | (rw [decide_eq_true]; simp_all; done)
end Go.Vsi
end

section
set_option linter.unusedVariables false
set_option linter.unusedSimpArgs false
set_option synthInstance.maxSize 4096
namespace Go.Vsi
theorem wd_of {l : List Int} (h : Gd (.sl 0 (.int .u64)) l) : Wd l := fun x hx => ⟨(h.2 x hx).1, (h.2 x hx).2⟩
theorem crowdOf_law {w : List Int} {l : List tBar} {v : Int} (hg : Gd (.prod (.sl 0 (.int .i64)) (.sl 0 yBar)) (w, l)) (hv : Gd (.int .i64) v) (K : Bool → Prop) :
  Ev (fun n => laws_FnExactCrowdOf.c n w l v K) ↔ K true := by
 have hw : Gd (.sl 0 (.int .i64)) w := hg.1
 have hl : Gd (.sl 0 yBar) l := hg.2
 refine Ev.suc.trans ?_
 simp only [laws_FnExactCrowdOf.c, laws_FnExactCrowdOf.w]
 rw [laws_szGraph_ev (by omega) (by omega) hw.1 hl.1 (fun y hy => (hl.2 y hy).2.2.2.1)]
 simp only [Ev.iteI, decide_eq_true_eq, Ev.k]
 by_cases z1 : ((w.length + (l.length + sBarS l) : Nat) : Int) ≤ 1048576
 ·rw [szr_ok z1, if_neg (by omega)]
  have hy : ∀ b ∈ l, b.2.2.2.length ≤ 1099511627776 := eqBarS_of (by omega)
  have t1 := fun R => laws_toGraph_ev (a0 := w) (a1 := l) (by omega) R
  have s1 := fun R => crowdOfS_ev (w := w) (l := l) (v := v) (fun y hy => wd_of (hl.2 y hy).2.2.2) hy R
  have s2 := fun R => crowdOf_ev (w := w) (l := l) (v := v) hy R
  have e1 := fun R => laws_eqGraph_ev (a0 := w) (a1 := l) (b0 := w) (b1 := l) (by omega) (by omega) hy R
  simp only [t1, s1, s2, e1, Ev.andI, and_self, decide_true, Bool.not_true, Bool.false_eq_true, if_false, if_true, Ev.k]
 ·rw [szr_no z1, if_pos (by omega)]
end Go.Vsi
end
