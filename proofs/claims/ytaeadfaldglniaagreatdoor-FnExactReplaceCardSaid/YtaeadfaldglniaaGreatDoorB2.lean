/- What the told functions answer. No statement is proved here. -/
import Derived.Test.YtaeadfaldglniaaGreatDoorB1
set_option linter.unusedVariables false
set_option linter.unusedSimpArgs false
set_option synthInstance.maxSize 4096

section
namespace Go.Vsi
theorem qOZ {a0 : List UInt8} {a1 : Int} {left : Int} (h0 : -1 <= left) (h1 : left <= 1099511627776) (h2 : a0.length <= 9223372036854775807) (R : Nat -> Int -> Prop) :
  Ev (fun n => Z42.c n a0 a1 left (R n)) ↔ Ev (fun n => R n (szr left (a0.length))) := by
 refine Ev.suc.trans ?_
 simp (disch := first | assumption | omega | exact qG2 (by assumption) | exact qBs (by assumption) (by assumption)) only [Z42.c, Z42.w, qG, Ev.iteI, decide_eq_true_eq, Ev.s1 R]
 unfold szr; (repeat' split) <;> first | rfl | (exfalso; omega) | exact zB (by omega)
def yA : List qQ -> Nat
 | [] => 0
 | y :: r => y.1.length + yA r
theorem qDs {y : qQ} : ∀ {l : List qQ}, y ∈ l -> y.1.length <= yA l
 | [], h => absurd h List.not_mem_nil
 | a :: l, h => by
  rw [yA]
  rcases List.mem_cons.1 h with rfl | h
  ·omega
  ·have := qDs h; omega
abbrev qNn : Ty := .prod .str (.int .i64)
theorem qH6 {l : List qQ} (h : Gd (.sl 0 qNn) l) : ∀ y : qQ, y ∈ l -> y.1.length <= 9223372036854775807 := fun y hy => (h.2 y hy).1
theorem qL3 {l : List qQ} (hl : l.length <= 9223372036854775807) : ∀ (ys : List qQ) (x left : Int), l.drop x.toNat = ys -> 0 <= x -> 0 <= left -> left <= 1099511627776 -> (∀ y ∈ ys, y.1.length <= 9223372036854775807) -> ∀ (Kx : Nat -> Int -> Prop),
  (Ev (fun n => Z43.l5 n l left x (Kx n) (Kx n)) ↔ Ev (fun n => Kx n (szr left (yA ys))))
 | [], x, left, h, h0, h1, h2, hy, Kx => by
  have := qO h h0
  refine Ev.suc.trans ?_
  simp (disch := omega) only [Z43.l5, Z43.l5.b, if_neg, decide_eq_true_eq, Ev.s1 Kx, yA]
  refine zB ?_; unfold szr; split <;> omega
 | y :: ys, x, left, h, h0, h1, h2, hy, Kx => by
  obtain ⟨e1, e2, e3⟩ := qD h h0
  have hy0 := hy y List.mem_cons_self
  refine Ev.suc.trans ?_
  simp (disch := first | assumption | exact hy0.1 | exact hy0.2 | exact hy0.2.1 | exact hy0.2.2 | exact hy0.2.2.1 | exact hy0.2.2.2 | omega) only [Z43.l5, Z43.l5.b, if_pos, decide_eq_true_eq, Ev.s1 Kx, qB, e2, qOZ, Ev.iteI, qG]
  split
  ·rename_i hs
   rw [yA, qG3 hs]
  ·rename_i hs
   rw [qL3 hl ys (x + 1) _ e3 (by omega) (by omega) (qBs (by omega) h2) (fun y hy' => hy y (List.mem_cons_of_mem _ hy')), yA, qIU h1 hs, Ev.s1 Kx]
theorem qOX {l : List qQ} {left : Int} (h0 : -1 <= left) (h1 : left <= 1099511627776) (hl : l.length <= 9223372036854775807) (hy : ∀ y ∈ l, y.1.length <= 9223372036854775807) (R : Nat -> Int -> Prop) :
  Ev (fun n => Z43.c n l left (R n)) ↔ Ev (fun n => R n (szr left (l.length + yA l))) := by
 refine Ev.suc.trans ?_
 simp (disch := omega) only [Z43.c, Z43.w, qG, Ev.iteI, decide_eq_true_eq, Ev.s1 R]
 split
 ·refine zB ?_; unfold szr; split <;> omega
 ·rw [qL3 hl l 0 _ rfl (by omega) (by omega) (by omega) hy, Ev.s1 R]
  refine zB ?_; unfold szr; (repeat' split) <;> omega
theorem qOO {l : List Int} {left : Int} (h0 : -1 <= left) (h1 : left <= 1099511627776) (hl : l.length <= 9223372036854775807) (R : Nat -> Int -> Prop) :
  Ev (fun n => Z48.c n l left (R n)) ↔ Ev (fun n => R n (szr left l.length)) := by
 refine Ev.suc.trans ?_
 simp (disch := omega) only [Z48.c, Z48.w, qG, Ev.iteI, decide_eq_true_eq, Ev.s1 R]
 unfold szr; split <;> split <;> first | rfl | omega | exact zB (by omega)
theorem qO1 {a0 : Int} {a1 : List Int} {left : Int} (h0 : -1 <= left) (h1 : left <= 1099511627776) (h2 : a1.length <= 9223372036854775807) (R : Nat -> Int -> Prop) :
  Ev (fun n => Z41.c n a0 a1 left (R n)) ↔ Ev (fun n => R n (szr left (a1.length))) := by
 refine Ev.suc.trans ?_
 simp (disch := first | assumption | omega | exact qG2 (by assumption) | exact qBs (by assumption) (by assumption)) only [Z41.c, Z41.w, qOO, qG, Ev.iteI, decide_eq_true_eq, Ev.s1 R]
 unfold szr; (repeat' split) <;> first | rfl | (exfalso; omega) | exact zB (by omega)
theorem qOV {l : List Int} {left : Int} (h0 : -1 <= left) (h1 : left <= 1099511627776) (hl : l.length <= 9223372036854775807) (R : Nat -> Int -> Prop) :
  Ev (fun n => Z44.c n l left (R n)) ↔ Ev (fun n => R n (szr left l.length)) := by
 refine Ev.suc.trans ?_
 simp (disch := omega) only [Z44.c, Z44.w, qG, Ev.iteI, decide_eq_true_eq, Ev.s1 R]
 unfold szr; split <;> split <;> first | rfl | omega | exact zB (by omega)
theorem qOT {a0 : Int} {a1 : Int} {a2 : Int} {a3 : Int} {a4 : Int} {a5 : List Int} {a6 : List Int} {left : Int} (h0 : -1 <= left) (h1 : left <= 1099511627776) (h2 : a5.length <= 9223372036854775807) (h3 : a6.length <= 9223372036854775807) (R : Nat -> Int -> Prop) :
  Ev (fun n => Z45.c n a0 a1 a2 a3 a4 a5 a6 left (R n)) ↔ Ev (fun n => R n (szr left (a5.length + a6.length))) := by
 refine Ev.suc.trans ?_
 simp (disch := first | assumption | omega | exact qG2 (by assumption) | exact qBs (by assumption) (by assumption)) only [Z45.c, Z45.w, qO1, qOV, qG, Ev.iteI, decide_eq_true_eq, Ev.s1 R]
 unfold szr; (repeat' split) <;> first | rfl | (exfalso; omega) | exact zB (by omega)
def qU : List qA -> Nat
 | [] => 0
 | y :: r => (y.2.2.2.2.2.1.length + y.2.2.2.2.2.2.length) + qU r
theorem kN {y : qA} : ∀ {l : List qA}, y ∈ l -> y.2.2.2.2.2.1.length + y.2.2.2.2.2.2.length <= qU l
 | [], h => absurd h List.not_mem_nil
 | a :: l, h => by
  rw [qU]
  rcases List.mem_cons.1 h with rfl | h
  ·omega
  ·have := kN h; omega
abbrev qGU : Ty := .prod (.int .i64) (.prod (.int .i64) (.prod (.int .i64) (.prod (.int .i64) (.prod (.int .i64) (.prod (.sl 0 (.int .u64)) (.sl 0 (.int .i64)))))))
theorem qCu {l : List qA} (h : Gd (.sl 0 qGU) l) : ∀ y : qA, y ∈ l -> y.2.2.2.2.2.1.length <= 9223372036854775807 /\ y.2.2.2.2.2.2.length <= 9223372036854775807 := fun y hy => ⟨(h.2 y hy).2.2.2.2.2.1.1, (h.2 y hy).2.2.2.2.2.2.1⟩
theorem qL2 {l : List qA} (hl : l.length <= 9223372036854775807) : ∀ (ys : List qA) (x left : Int), l.drop x.toNat = ys -> 0 <= x -> 0 <= left -> left <= 1099511627776 -> (∀ y ∈ ys, y.2.2.2.2.2.1.length <= 9223372036854775807 /\ y.2.2.2.2.2.2.length <= 9223372036854775807) -> ∀ (Kx : Nat -> Int -> Prop),
  (Ev (fun n => Z46.l5 n l left x (Kx n) (Kx n)) ↔ Ev (fun n => Kx n (szr left (qU ys))))
 | [], x, left, h, h0, h1, h2, hy, Kx => by
  have := qO h h0
  refine Ev.suc.trans ?_
  simp (disch := omega) only [Z46.l5, Z46.l5.b, if_neg, decide_eq_true_eq, Ev.s1 Kx, qU]
  refine zB ?_; unfold szr; split <;> omega
 | y :: ys, x, left, h, h0, h1, h2, hy, Kx => by
  obtain ⟨e1, e2, e3⟩ := qD h h0
  have hy0 := hy y List.mem_cons_self
  refine Ev.suc.trans ?_
  simp (disch := first | assumption | exact hy0.1 | exact hy0.2 | exact hy0.2.1 | exact hy0.2.2 | exact hy0.2.2.1 | exact hy0.2.2.2 | omega) only [Z46.l5, Z46.l5.b, if_pos, decide_eq_true_eq, Ev.s1 Kx, qB, e2, qOT, Ev.iteI, qG]
  split
  ·rename_i hs
   rw [qU, qG3 hs]
  ·rename_i hs
   rw [qL2 hl ys (x + 1) _ e3 (by omega) (by omega) (qBs (by omega) h2) (fun y hy' => hy y (List.mem_cons_of_mem _ hy')), qU, qIU h1 hs, Ev.s1 Kx]
theorem qOR {l : List qA} {left : Int} (h0 : -1 <= left) (h1 : left <= 1099511627776) (hl : l.length <= 9223372036854775807) (hy : ∀ y ∈ l, y.2.2.2.2.2.1.length <= 9223372036854775807 /\ y.2.2.2.2.2.2.length <= 9223372036854775807) (R : Nat -> Int -> Prop) :
  Ev (fun n => Z46.c n l left (R n)) ↔ Ev (fun n => R n (szr left (l.length + qU l))) := by
 refine Ev.suc.trans ?_
 simp (disch := omega) only [Z46.c, Z46.w, qG, Ev.iteI, decide_eq_true_eq, Ev.s1 R]
 split
 ·refine zB ?_; unfold szr; split <;> omega
 ·rw [qL2 hl l 0 _ rfl (by omega) (by omega) (by omega) hy, Ev.s1 R]
  refine zB ?_; unfold szr; (repeat' split) <;> omega
theorem qL1 {a0 : List (Int × Int × Int × Int × Int × List (Int) × List (Int))} {left : Int} (h0 : -1 <= left) (h1 : left <= 1099511627776) (h2 : a0.length <= 9223372036854775807) (h3 : (∀ y : qA, y ∈ a0 -> y.2.2.2.2.2.1.length <= 9223372036854775807 /\ y.2.2.2.2.2.2.length <= 9223372036854775807)) (R : Nat -> Int -> Prop) :
  Ev (fun n => Z47.c n a0 left (R n)) ↔ Ev (fun n => R n (szr left ((a0.length + qU a0)))) := by
 refine Ev.suc.trans ?_
 simp (disch := first | assumption | omega | exact qG2 (by assumption) | exact qBs (by assumption) (by assumption)) only [Z47.c, Z47.w, qOR, qG, Ev.iteI, decide_eq_true_eq, Ev.s1 R]
 unfold szr; (repeat' split) <;> first | rfl | (exfalso; omega) | exact zB (by omega)
theorem qOK {a0 : List UInt8} {a1 : Int} (h : a0.length <= 1048576) (R : Nat -> List UInt8 -> Int -> Prop) :
  Ev (fun n => Z50.c n a0 a1 (R n)) ↔ Ev (fun n => R n a0 a1) := by
 refine Ev.suc.trans ?_
 simp (disch := omega) only [Z50.c, Z50.w, Ev.s2 R]
theorem qL0 {l : List qQ} (hl : l.length <= 1048576) : ∀ (ys : List qQ) (x : Int) (o : List qQ), l.drop x.toNat = ys -> 0 <= x -> o.length = l.length -> (∀ y ∈ ys, y.1.length <= 1048576) -> ∀ (Kx : Nat -> List qQ -> Prop),
  (Ev (fun n => Z51.l3 n l x o (Kx n)) ↔ Ev (fun n => Kx n (o.take x.toNat ++ ys)))
 | [], x, o, h, h0, ho, hy, Kx => by
  have := qO h h0
  refine Ev.suc.trans ?_
  simp (disch := omega) only [Z51.l3, Z51.l3.b, if_neg, decide_eq_true_eq, Ev.s1 Kx]
  rw [List.take_of_length_le (by omega), List.append_nil]
 | y :: ys, x, o, h, h0, ho, hy, Kx => by
  obtain ⟨e1, e2, e3⟩ := qD h h0
  have hy0 := hy y List.mem_cons_self
  refine Ev.suc.trans ?_
  simp (disch := omega) only [Z51.l3, Z51.l3.b, if_pos, decide_eq_true_eq, Ev.s1 Kx, qB, e2, qG, qOK]
  rw [qL0 hl ys (x + 1) _ e3 (by omega) (by simpa using ho) (fun y hy' => hy y (List.mem_cons_of_mem _ hy')), Ev.s1 Kx, wH (by omega) (by omega), List.append_assoc]
  rfl
theorem qOI {l : List qQ} (h : (l.length + yA l) <= 1048576) (R : Nat -> List qQ -> Prop) :
  Ev (fun n => Z51.c n l (R n)) ↔ Ev (fun n => R n l) := by
 refine Ev.suc.trans ?_
 simp (disch := omega) only [Z51.c, Z51.w, qB, decide_true, Bool.and_true]
 rw [qL0 (by omega) l 0 _ rfl (by omega) (by simp) (fun y hy => by have := qDs hy; omega), Ev.s1 R]
 simp
theorem qLW {l : List Int} (hl : l.length <= 1048576) : ∀ (ys : List Int) (x : Int) (o : List Int), l.drop x.toNat = ys -> 0 <= x -> o.length = l.length -> ∀ (Kx : Nat -> List Int -> Prop),
  (Ev (fun n => Z56.l3 n l x o (Kx n)) ↔ Ev (fun n => Kx n (o.take x.toNat ++ ys)))
 | [], x, o, h, h0, ho, Kx => by
  have := qO h h0
  refine Ev.suc.trans ?_
  simp (disch := omega) only [Z56.l3, Z56.l3.b, if_neg, decide_eq_true_eq, Ev.s1 Kx]
  rw [List.take_of_length_le (by omega), List.append_nil]
 | y :: ys, x, o, h, h0, ho, Kx => by
  obtain ⟨e1, e2, e3⟩ := qD h h0
  refine Ev.suc.trans ?_
  simp (disch := omega) only [Z56.l3, Z56.l3.b, if_pos, decide_eq_true_eq, Ev.s1 Kx, qB, e2, qG]
  rw [qLW hl ys (x + 1) _ e3 (by omega) (by simpa using ho), Ev.s1 Kx, wH (by omega) (by omega), List.append_assoc]
  rfl
theorem qOz {l : List Int} (h : l.length <= 1048576) (R : Nat -> List Int -> Prop) :
  Ev (fun n => Z56.c n l (R n)) ↔ Ev (fun n => R n l) := by
 refine Ev.suc.trans ?_
 simp (disch := omega) only [Z56.c, Z56.w, qB, decide_true, Bool.and_true]
 rw [qLW (by omega) l 0 _ rfl (by omega) (by simp), Ev.s1 R]
 simp
theorem qOM {a0 : Int} {a1 : List Int} (h : a1.length <= 1048576) (R : Nat -> Int -> List Int -> Prop) :
  Ev (fun n => Z49.c n a0 a1 (R n)) ↔ Ev (fun n => R n a0 a1) := by
 refine Ev.suc.trans ?_
 simp (disch := omega) only [Z49.c, Z49.w, qOz, Ev.s2 R]
theorem qLZ {l : List Int} (hl : l.length <= 1048576) : ∀ (ys : List Int) (x : Int) (o : List Int), l.drop x.toNat = ys -> 0 <= x -> o.length = l.length -> ∀ (Kx : Nat -> List Int -> Prop),
  (Ev (fun n => Z52.l3 n l x o (Kx n)) ↔ Ev (fun n => Kx n (o.take x.toNat ++ ys)))
 | [], x, o, h, h0, ho, Kx => by
  have := qO h h0
  refine Ev.suc.trans ?_
  simp (disch := omega) only [Z52.l3, Z52.l3.b, if_neg, decide_eq_true_eq, Ev.s1 Kx]
  rw [List.take_of_length_le (by omega), List.append_nil]
 | y :: ys, x, o, h, h0, ho, Kx => by
  obtain ⟨e1, e2, e3⟩ := qD h h0
  refine Ev.suc.trans ?_
  simp (disch := omega) only [Z52.l3, Z52.l3.b, if_pos, decide_eq_true_eq, Ev.s1 Kx, qB, e2, qG]
  rw [qLZ hl ys (x + 1) _ e3 (by omega) (by simpa using ho), Ev.s1 Kx, wH (by omega) (by omega), List.append_assoc]
  rfl
theorem qOG {l : List Int} (h : l.length <= 1048576) (R : Nat -> List Int -> Prop) :
  Ev (fun n => Z52.c n l (R n)) ↔ Ev (fun n => R n l) := by
 refine Ev.suc.trans ?_
 simp (disch := omega) only [Z52.c, Z52.w, qB, decide_true, Bool.and_true]
 rw [qLZ (by omega) l 0 _ rfl (by omega) (by simp), Ev.s1 R]
 simp
theorem qOE {a0 : Int} {a1 : Int} {a2 : Int} {a3 : Int} {a4 : Int} {a5 : List Int} {a6 : List Int} (h : a5.length + a6.length <= 1048576) (R : Nat -> Int -> Int -> Int -> Int -> Int -> List Int -> List Int -> Prop) :
  Ev (fun n => Z53.c n a0 a1 a2 a3 a4 a5 a6 (R n)) ↔ Ev (fun n => R n a0 a1 a2 a3 a4 a5 a6) := by
 refine Ev.suc.trans ?_
 simp (disch := omega) only [Z53.c, Z53.w, qOM, qOG, Ev.s7 R]
theorem qLY {l : List qA} (hl : l.length <= 1048576) : ∀ (ys : List qA) (x : Int) (o : List qA), l.drop x.toNat = ys -> 0 <= x -> o.length = l.length -> (∀ y ∈ ys, y.2.2.2.2.2.1.length + y.2.2.2.2.2.2.length <= 1048576) -> ∀ (Kx : Nat -> List qA -> Prop),
  (Ev (fun n => Z54.l3 n l x o (Kx n)) ↔ Ev (fun n => Kx n (o.take x.toNat ++ ys)))
 | [], x, o, h, h0, ho, hy, Kx => by
  have := qO h h0
  refine Ev.suc.trans ?_
  simp (disch := omega) only [Z54.l3, Z54.l3.b, if_neg, decide_eq_true_eq, Ev.s1 Kx]
  rw [List.take_of_length_le (by omega), List.append_nil]
 | y :: ys, x, o, h, h0, ho, hy, Kx => by
  obtain ⟨e1, e2, e3⟩ := qD h h0
  have hy0 := hy y List.mem_cons_self
  refine Ev.suc.trans ?_
  simp (disch := omega) only [Z54.l3, Z54.l3.b, if_pos, decide_eq_true_eq, Ev.s1 Kx, qB, e2, qG, qOE]
  rw [qLY hl ys (x + 1) _ e3 (by omega) (by simpa using ho) (fun y hy' => hy y (List.mem_cons_of_mem _ hy')), Ev.s1 Kx, wH (by omega) (by omega), List.append_assoc]
  rfl
theorem qOC {l : List qA} (h : (l.length + qU l) <= 1048576) (R : Nat -> List qA -> Prop) :
  Ev (fun n => Z54.c n l (R n)) ↔ Ev (fun n => R n l) := by
 refine Ev.suc.trans ?_
 simp (disch := omega) only [Z54.c, Z54.w, qB, decide_true, Bool.and_true]
 rw [qLY (by omega) l 0 _ rfl (by omega) (by simp) (fun y hy => by have := kN hy; omega), Ev.s1 R]
 simp
theorem qLX {a0 : List (Int × Int × Int × Int × Int × List (Int) × List (Int))} (h : (a0.length + qU a0) <= 1048576) (R : Nat -> List (Int × Int × Int × Int × Int × List (Int) × List (Int)) -> Prop) :
  Ev (fun n => Z55.c n a0 (R n)) ↔ Ev (fun n => R n a0) := by
 refine Ev.suc.trans ?_
 simp (disch := omega) only [Z55.c, Z55.w, qOC, Ev.s1 R]
theorem qMb {l l' : List Int} (hl : l.length <= 1099511627776) (hll : l.length = l'.length) : ∀ (ys ys' : List Int) (x : Int), l.drop x.toNat = ys -> l'.drop x.toNat = ys' -> 0 <= x -> ∀ (Kx : Nat -> Prop) (Kr : Nat -> Bool -> Prop),
  (Ev (fun n => Z30.l4 n l l' x (Kx n) (Kr n)) ↔ if ys = ys' then Ev Kx else Ev (fun n => Kr n false))
 | [], [], x, h, h', h0, Kx, Kr => by
  have := qO h h0
  refine Ev.suc.trans ?_
  simp (disch := omega) only [Z30.l4, Z30.l4.b, if_neg, decide_eq_true_eq, Ev.s0 Kx, if_true]
 | [], y' :: ys', x, h, h', h0, Kx, Kr => by
  have := qO h h0; have := (qD h' h0).1; omega
 | y :: ys, [], x, h, h', h0, Kx, Kr => by
  have := qO h' h0; have := (qD h h0).1; omega
 | y :: ys, y' :: ys', x, h, h', h0, Kx, Kr => by
  obtain ⟨e1, e2, e3⟩ := qD h h0
  obtain ⟨_, f2, f3⟩ := qD h' h0
  refine Ev.suc.trans ?_
  simp (disch := first | assumption | exact hy0.1 | exact hy0.2 | exact hy0.2.1 | exact hy0.2.2 | exact hy0.2.2.1 | exact hy0.2.2.2 | omega) only [Z30.l4, Z30.l4.b, if_pos, decide_eq_true_eq, Ev.s0 Kx, Ev.s1 Kr, qB, e2, f2, qG, Ev.iteI, Bool.not_eq_true', decide_eq_false_iff_not]
  rw [qMb hl hll ys ys' (x + 1) e3 f3 (by omega), Ev.s0 Kx, Ev.s1 Kr]
  simp only [List.cons.injEq, Prod.ext_iff]
  (repeat' split) <;> first | rfl | (exfalso; simp_all; done)
theorem qPl {l l' : List Int} (hl : l.length <= 1099511627776) (R : Nat -> Bool -> Prop) :
  Ev (fun n => Z30.c n l l' (R n)) ↔ Ev (fun n => R n (decide (l = l'))) := by
 refine Ev.suc.trans ?_
 simp (disch := omega) only [Z30.c, Z30.w, Ev.iteI, Bool.not_eq_true', decide_eq_false_iff_not, Ev.s1 R]
 split
 ·rw [decide_eq_false]; intro e; subst e; omega
 ·rw [qMb hl (by omega) l l' 0 rfl rfl (by omega), Ev.s1 R, Ev.s1 R]
  split
  ·rw [decide_eq_true ‹_›]
  ·rw [decide_eq_false ‹_›]
theorem qPy {a0 b0 : Int} {a1 b1 : List Int} (h0 : a1.length <= 1099511627776) (R : Nat -> Bool -> Prop) :
  Ev (fun n => Z23.c n a0 a1 b0 b1 (R n)) ↔ Ev (fun n => R n (decide (a0 = b0 /\ a1 = b1))) := by
 refine Ev.suc.trans ?_
 simp (disch := first | assumption | omega) only [Z23.c, Z23.w, qPl, Ev.iteI, Bool.not_eq_true', decide_eq_false_iff_not, beq_eq_false_iff_ne, ne_eq, Ev.s1 R]
 (repeat' split) <;> first | (rw [decide_eq_false]; simp_all; done) | (rw [decide_eq_true]; simp_all; done)
theorem qMd {l l' : List Int} (hl : l.length <= 1099511627776) (hll : l.length = l'.length) : ∀ (ys ys' : List Int) (x : Int), l.drop x.toNat = ys -> l'.drop x.toNat = ys' -> 0 <= x -> ∀ (Kx : Nat -> Prop) (Kr : Nat -> Bool -> Prop),
  (Ev (fun n => Z26.l4 n l l' x (Kx n) (Kr n)) ↔ if ys = ys' then Ev Kx else Ev (fun n => Kr n false))
 | [], [], x, h, h', h0, Kx, Kr => by
  have := qO h h0
  refine Ev.suc.trans ?_
  simp (disch := omega) only [Z26.l4, Z26.l4.b, if_neg, decide_eq_true_eq, Ev.s0 Kx, if_true]
 | [], y' :: ys', x, h, h', h0, Kx, Kr => by
  have := qO h h0; have := (qD h' h0).1; omega
 | y :: ys, [], x, h, h', h0, Kx, Kr => by
  have := qO h' h0; have := (qD h h0).1; omega
 | y :: ys, y' :: ys', x, h, h', h0, Kx, Kr => by
  obtain ⟨e1, e2, e3⟩ := qD h h0
  obtain ⟨_, f2, f3⟩ := qD h' h0
  refine Ev.suc.trans ?_
  simp (disch := first | assumption | exact hy0.1 | exact hy0.2 | exact hy0.2.1 | exact hy0.2.2 | exact hy0.2.2.1 | exact hy0.2.2.2 | omega) only [Z26.l4, Z26.l4.b, if_pos, decide_eq_true_eq, Ev.s0 Kx, Ev.s1 Kr, qB, e2, f2, qG, Ev.iteI, Bool.not_eq_true', decide_eq_false_iff_not]
  rw [qMd hl hll ys ys' (x + 1) e3 f3 (by omega), Ev.s0 Kx, Ev.s1 Kr]
  simp only [List.cons.injEq, Prod.ext_iff]
  (repeat' split) <;> first | rfl | (exfalso; simp_all; done)
theorem qPs {l l' : List Int} (hl : l.length <= 1099511627776) (R : Nat -> Bool -> Prop) :
  Ev (fun n => Z26.c n l l' (R n)) ↔ Ev (fun n => R n (decide (l = l'))) := by
 refine Ev.suc.trans ?_
 simp (disch := omega) only [Z26.c, Z26.w, Ev.iteI, Bool.not_eq_true', decide_eq_false_iff_not, Ev.s1 R]
 split
 ·rw [decide_eq_false]; intro e; subst e; omega
 ·rw [qMd hl (by omega) l l' 0 rfl rfl (by omega), Ev.s1 R, Ev.s1 R]
  split
  ·rw [decide_eq_true ‹_›]
  ·rw [decide_eq_false ‹_›]
theorem qPq {a0 b0 : Int} {a1 b1 : Int} {a2 b2 : Int} {a3 b3 : Int} {a4 b4 : Int} {a5 b5 : List Int} {a6 b6 : List Int} (h0 : a5.length <= 1099511627776) (h1 : a6.length <= 1099511627776) (R : Nat -> Bool -> Prop) :
  Ev (fun n => Z27.c n a0 a1 a2 a3 a4 a5 a6 b0 b1 b2 b3 b4 b5 b6 (R n)) ↔ Ev (fun n => R n (decide (a0 = b0 /\ a1 = b1 /\ a2 = b2 /\ a3 = b3 /\ a4 = b4 /\ a5 = b5 /\ a6 = b6))) := by
 refine Ev.suc.trans ?_
 simp (disch := first | assumption | omega) only [Z27.c, Z27.w, qPy, qPs, Ev.iteI, Bool.not_eq_true', decide_eq_false_iff_not, beq_eq_false_iff_ne, ne_eq, Ev.s1 R]
 (repeat' split) <;> first | (rw [decide_eq_false]; simp_all; done) | (rw [decide_eq_true]; simp_all; done)
theorem qMc {l l' : List qA} (hl : l.length <= 1099511627776) (hll : l.length = l'.length) : ∀ (ys ys' : List qA) (x : Int), l.drop x.toNat = ys -> l'.drop x.toNat = ys' -> 0 <= x -> (∀ y ∈ ys, y.2.2.2.2.2.1.length <= 1099511627776 /\ y.2.2.2.2.2.2.length <= 1099511627776) -> ∀ (Kx : Nat -> Prop) (Kr : Nat -> Bool -> Prop),
  (Ev (fun n => Z28.l4 n l l' x (Kx n) (Kr n)) ↔ if ys = ys' then Ev Kx else Ev (fun n => Kr n false))
 | [], [], x, h, h', h0, hy, Kx, Kr => by
  have := qO h h0
  refine Ev.suc.trans ?_
  simp (disch := omega) only [Z28.l4, Z28.l4.b, if_neg, decide_eq_true_eq, Ev.s0 Kx, if_true]
 | [], y' :: ys', x, h, h', h0, hy, Kx, Kr => by
  have := qO h h0; have := (qD h' h0).1; omega
 | y :: ys, [], x, h, h', h0, hy, Kx, Kr => by
  have := qO h' h0; have := (qD h h0).1; omega
 | y :: ys, y' :: ys', x, h, h', h0, hy, Kx, Kr => by
  obtain ⟨e1, e2, e3⟩ := qD h h0
  obtain ⟨_, f2, f3⟩ := qD h' h0
  have hy0 := hy y List.mem_cons_self
  refine Ev.suc.trans ?_
  simp (disch := first | assumption | exact hy0.1 | exact hy0.2 | exact hy0.2.1 | exact hy0.2.2 | exact hy0.2.2.1 | exact hy0.2.2.2 | omega) only [Z28.l4, Z28.l4.b, if_pos, decide_eq_true_eq, Ev.s0 Kx, Ev.s1 Kr, qB, e2, f2, qG, qPq, Ev.iteI, Bool.not_eq_true', decide_eq_false_iff_not]
  rw [qMc hl hll ys ys' (x + 1) e3 f3 (by omega) (fun y hy' => hy y (List.mem_cons_of_mem _ hy')), Ev.s0 Kx, Ev.s1 Kr]
  simp only [List.cons.injEq, Prod.ext_iff]
  (repeat' split) <;> first | rfl | (exfalso; simp_all; done)
theorem qPo {l l' : List qA} (hl : l.length <= 1099511627776) (hy : ∀ y ∈ l, y.2.2.2.2.2.1.length <= 1099511627776 /\ y.2.2.2.2.2.2.length <= 1099511627776) (R : Nat -> Bool -> Prop) :
  Ev (fun n => Z28.c n l l' (R n)) ↔ Ev (fun n => R n (decide (l = l'))) := by
 refine Ev.suc.trans ?_
 simp (disch := omega) only [Z28.c, Z28.w, Ev.iteI, Bool.not_eq_true', decide_eq_false_iff_not, Ev.s1 R]
 split
 ·rw [decide_eq_false]; intro e; subst e; omega
 ·rw [qMc hl (by omega) l l' 0 rfl rfl (by omega) hy, Ev.s1 R, Ev.s1 R]
  split
  ·rw [decide_eq_true ‹_›]
  ·rw [decide_eq_false ‹_›]
theorem qAG {l : List qA} (h : (l.length + qU l) <= 1099511627776) : ∀ y : qA, y ∈ l -> y.2.2.2.2.2.1.length <= 1099511627776 /\ y.2.2.2.2.2.2.length <= 1099511627776 := by
 intro y hy
 have := kN hy
 exact ⟨(by omega), (by omega)⟩
theorem qKo {a0 b0 : List (Int × Int × Int × Int × Int × List (Int) × List (Int))} (h0 : a0.length <= 1099511627776) (h1 : (∀ y : qA, y ∈ a0 -> y.2.2.2.2.2.1.length <= 1099511627776 /\ y.2.2.2.2.2.2.length <= 1099511627776)) (R : Nat -> Bool -> Prop) :
  Ev (fun n => Z29.c n a0 b0 (R n)) ↔ Ev (fun n => R n (decide (a0 = b0))) := by
 refine Ev.suc.trans ?_
 simp (disch := first | assumption | omega) only [Z29.c, Z29.w, qPo, Ev.iteI, Bool.not_eq_true', decide_eq_false_iff_not, beq_eq_false_iff_ne, ne_eq, Ev.s1 R]
 (repeat' split) <;> first | (rw [decide_eq_false]; simp_all; done) | (rw [decide_eq_true]; simp_all; done)
theorem qPw {a0 b0 : List UInt8} {a1 b1 : Int} (R : Nat -> Bool -> Prop) :
  Ev (fun n => Z24.c n a0 a1 b0 b1 (R n)) ↔ Ev (fun n => R n (decide (a0 = b0 /\ a1 = b1))) := by
 refine Ev.suc.trans ?_
 simp (disch := first | assumption | omega) only [Z24.c, Z24.w, Ev.iteI, Bool.not_eq_true', decide_eq_false_iff_not, beq_eq_false_iff_ne, ne_eq, Ev.s1 R]
 (repeat' split) <;> first | (rw [decide_eq_false]; simp_all; done) | (rw [decide_eq_true]; simp_all; done)
theorem qMe {l l' : List qQ} (hl : l.length <= 1099511627776) (hll : l.length = l'.length) : ∀ (ys ys' : List qQ) (x : Int), l.drop x.toNat = ys -> l'.drop x.toNat = ys' -> 0 <= x -> ∀ (Kx : Nat -> Prop) (Kr : Nat -> Bool -> Prop),
  (Ev (fun n => Z25.l4 n l l' x (Kx n) (Kr n)) ↔ if ys = ys' then Ev Kx else Ev (fun n => Kr n false))
 | [], [], x, h, h', h0, Kx, Kr => by
  have := qO h h0
  refine Ev.suc.trans ?_
  simp (disch := omega) only [Z25.l4, Z25.l4.b, if_neg, decide_eq_true_eq, Ev.s0 Kx, if_true]
 | [], y' :: ys', x, h, h', h0, Kx, Kr => by
  have := qO h h0; have := (qD h' h0).1; omega
 | y :: ys, [], x, h, h', h0, Kx, Kr => by
  have := qO h' h0; have := (qD h h0).1; omega
 | y :: ys, y' :: ys', x, h, h', h0, Kx, Kr => by
  obtain ⟨e1, e2, e3⟩ := qD h h0
  obtain ⟨_, f2, f3⟩ := qD h' h0
  refine Ev.suc.trans ?_
  simp (disch := first | assumption | exact hy0.1 | exact hy0.2 | exact hy0.2.1 | exact hy0.2.2 | exact hy0.2.2.1 | exact hy0.2.2.2 | omega) only [Z25.l4, Z25.l4.b, if_pos, decide_eq_true_eq, Ev.s0 Kx, Ev.s1 Kr, qB, e2, f2, qG, qPw, Ev.iteI, Bool.not_eq_true', decide_eq_false_iff_not]
  rw [qMe hl hll ys ys' (x + 1) e3 f3 (by omega), Ev.s0 Kx, Ev.s1 Kr]
  simp only [List.cons.injEq, Prod.ext_iff]
  (repeat' split) <;> first | rfl | (exfalso; simp_all; done)
theorem qPu {l l' : List qQ} (hl : l.length <= 1099511627776) (R : Nat -> Bool -> Prop) :
  Ev (fun n => Z25.c n l l' (R n)) ↔ Ev (fun n => R n (decide (l = l'))) := by
 refine Ev.suc.trans ?_
 simp (disch := omega) only [Z25.c, Z25.w, Ev.iteI, Bool.not_eq_true', decide_eq_false_iff_not, Ev.s1 R]
 split
 ·rw [decide_eq_false]; intro e; subst e; omega
 ·rw [qMe hl (by omega) l l' 0 rfl rfl (by omega), Ev.s1 R, Ev.s1 R]
  split
  ·rw [decide_eq_true ‹_›]
  ·rw [decide_eq_false ‹_›]
def qFl : List qQ -> Int -> List qQ
 | [], _ => []
 | y :: r, k => (qMH k, k + 1) :: qFl r (k + 1 + 1)
def yT : List qQ -> Nat
 | [] => 0
 | y :: r => (2) + yT r
theorem qL7 : ∀ (ys l : List qQ) (k x : Int), l.drop x.toNat = ys -> 0 <= x -> l.length <= 1099511627776 -> 0 < k -> k + (yT ys : Int) <= 4611686018427387904 -> ∀ (Kx : Nat -> Int -> List qQ -> Prop),
  (Ev (fun n => Z35.l2 n k x l (Kx n)) ↔ Ev (fun n => Kx n (k + (yT ys : Int)) (l.take x.toNat ++ qFl ys k)))
 | [], l, k, x, h, h0, hl, hk, hb, Kx => by
  have := qO h h0
  refine Ev.suc.trans ?_
  simp (disch := omega) only [Z35.l2, Z35.l2.b, if_neg, decide_eq_true_eq, Ev.s2 Kx]
  rw [List.take_of_length_le (by omega), qFl, List.append_nil]
  refine qEo ?_; simp [yT]
 | y :: ys, l, k, x, h, h0, hl, hk, hb, Kx => by
  obtain ⟨e1, e2, e3⟩ := qD h h0
  simp only [List.length_cons, yT] at hb
  refine Ev.suc.trans ?_
  simp (disch := first | assumption | exact hy0.1 | exact hy0.2 | exact hy0.2.1 | exact hy0.2.2 | exact hy0.2.2.1 | exact hy0.2.2.2 | omega) only [Z35.l2, Z35.l2.b, if_pos, decide_eq_true_eq, Ev.s2 Kx, qB, qG, qDX, qA1, List.length_set, List.set_set, e2, qGm]
  rw [qL7 ys _ _ (x + 1) (qCm e3 (by omega)) (by omega) (by simpa using hl) (by omega) (by omega), Ev.s2 Kx, wH (by omega) (by omega), List.append_assoc, qFl]
  simp only [List.length_cons, yT, List.singleton_append]
  exact qEn (by omega) (by congr 2 <;> first | rfl | omega | (congr 1; omega) | skip)
theorem qPb {l : List qQ} {k : Int} (hl : l.length <= 1099511627776) (hk : 0 < k) (hb : k + (yT l : Int) <= 4611686018427387904) (R : Nat -> Int -> List qQ -> Prop) :
  Ev (fun n => Z35.c n l k (R n)) ↔ Ev (fun n => R n (k + (yT l : Int)) (qFl l k)) := by
 refine Ev.suc.trans ?_
 simp only [Z35.c, Z35.w]
 rw [qL7 l l k 0 rfl (by omega) hl hk hb, Ev.s2 R]
 rfl
theorem qFP : ∀ {l : List qQ}, yT l <= 8 * (l.length + yA l)
 | [] => by simp [yT]
 | y :: r => by
  have := qFP (l := r)
  simp only [yT, yA, List.length_cons]; omega
def wK : List Int -> Int -> List Int
 | [], _ => []
 | y :: r, k => (k) :: wK r (k + 1)
theorem qL4 : ∀ (ys l : List Int) (k x : Int), l.drop x.toNat = ys -> 0 <= x -> l.length <= 1099511627776 -> 0 < k -> k + (ys.length : Int) <= 4611686018427387904 -> ∀ (Kx : Nat -> Int -> List Int -> Prop),
  (Ev (fun n => Z40.l2 n k x l (Kx n)) ↔ Ev (fun n => Kx n (k + (ys.length : Int)) (l.take x.toNat ++ wK ys k)))
 | [], l, k, x, h, h0, hl, hk, hb, Kx => by
  have := qO h h0
  refine Ev.suc.trans ?_
  simp (disch := omega) only [Z40.l2, Z40.l2.b, if_neg, decide_eq_true_eq, Ev.s2 Kx]
  rw [List.take_of_length_le (by omega), wK, List.append_nil]
  refine qEo ?_; simp
 | y :: ys, l, k, x, h, h0, hl, hk, hb, Kx => by
  obtain ⟨e1, e2, e3⟩ := qD h h0
  simp only [List.length_cons] at hb
  refine Ev.suc.trans ?_
  simp (disch := first | assumption | exact hy0.1 | exact hy0.2 | exact hy0.2.1 | exact hy0.2.2 | exact hy0.2.2.1 | exact hy0.2.2.2 | omega) only [Z40.l2, Z40.l2.b, if_pos, decide_eq_true_eq, Ev.s2 Kx, qB, qG, qDX, qA1, List.length_set, List.set_set, e2]
  rw [qL4 ys _ _ (x + 1) (qCm e3 (by omega)) (by omega) (by simpa using hl) (by omega) (by omega), Ev.s2 Kx, wH (by omega) (by omega), List.append_assoc, wK]
  simp only [List.length_cons, List.singleton_append]
  exact qEn (by omega) (by congr 2 <;> first | rfl | omega | (congr 1; omega) | skip)
theorem qO3 {l : List Int} {k : Int} (hl : l.length <= 1099511627776) (hk : 0 < k) (hb : k + (l.length : Int) <= 4611686018427387904) (R : Nat -> Int -> List Int -> Prop) :
  Ev (fun n => Z40.c n l k (R n)) ↔ Ev (fun n => R n (k + (l.length : Int)) (wK l k)) := by
 refine Ev.suc.trans ?_
 simp only [Z40.c, Z40.w]
 rw [qL4 l l k 0 rfl (by omega) hl hk hb, Ev.s2 R]
 rfl
theorem qBW : ∀ {l : List Int} {k : Int}, (wK l k).length = l.length
 | [], _ => rfl
 | y :: l, k => by simp [wK, qBW]
def yI : List Int -> Int -> List Int
 | [], _ => []
 | y :: r, k => (k) :: yI r (k + 1)
theorem qL6 : ∀ (ys l : List Int) (k x : Int), l.drop x.toNat = ys -> 0 <= x -> l.length <= 1099511627776 -> 0 < k -> k + (ys.length : Int) <= 4611686018427387904 -> ∀ (Kx : Nat -> Int -> List Int -> Prop),
  (Ev (fun n => Z36.l2 n k x l (Kx n)) ↔ Ev (fun n => Kx n (k + (ys.length : Int)) (l.take x.toNat ++ yI ys k)))
 | [], l, k, x, h, h0, hl, hk, hb, Kx => by
  have := qO h h0
  refine Ev.suc.trans ?_
  simp (disch := omega) only [Z36.l2, Z36.l2.b, if_neg, decide_eq_true_eq, Ev.s2 Kx]
  rw [List.take_of_length_le (by omega), yI, List.append_nil]
  refine qEo ?_; simp
 | y :: ys, l, k, x, h, h0, hl, hk, hb, Kx => by
  obtain ⟨e1, e2, e3⟩ := qD h h0
  simp only [List.length_cons] at hb
  refine Ev.suc.trans ?_
  simp (disch := first | assumption | exact hy0.1 | exact hy0.2 | exact hy0.2.1 | exact hy0.2.2 | exact hy0.2.2.1 | exact hy0.2.2.2 | omega) only [Z36.l2, Z36.l2.b, if_pos, decide_eq_true_eq, Ev.s2 Kx, qB, qG, qDX, qA1, List.length_set, List.set_set, e2]
  rw [qL6 ys _ _ (x + 1) (qCm e3 (by omega)) (by omega) (by simpa using hl) (by omega) (by omega), Ev.s2 Kx, wH (by omega) (by omega), List.append_assoc, yI]
  simp only [List.length_cons, List.singleton_append]
  exact qEn (by omega) (by congr 2 <;> first | rfl | omega | (congr 1; omega) | skip)
theorem qO9 {l : List Int} {k : Int} (hl : l.length <= 1099511627776) (hk : 0 < k) (hb : k + (l.length : Int) <= 4611686018427387904) (R : Nat -> Int -> List Int -> Prop) :
  Ev (fun n => Z36.c n l k (R n)) ↔ Ev (fun n => R n (k + (l.length : Int)) (yI l k)) := by
 refine Ev.suc.trans ?_
 simp only [Z36.c, Z36.w]
 rw [qL6 l l k 0 rfl (by omega) hl hk hb, Ev.s2 R]
 rfl
theorem qCU : ∀ {l : List Int} {k : Int}, (yI l k).length = l.length
 | [], _ => rfl
 | y :: l, k => by simp [yI, qCU]
def kS : List qA -> Int -> List qA
 | [], _ => []
 | y :: r, k => (k, k + 1, k + 1 + 1, k + 1 + 1 + 1, k + 1 + 1 + 1 + 1, wK y.2.2.2.2.2.1 (k + 1 + 1 + 1 + 1 + 1), yI y.2.2.2.2.2.2 (k + 1 + 1 + 1 + 1 + 1 + ((y.2.2.2.2.2.1.length : Nat) : Int))) :: kS r (k + 1 + 1 + 1 + 1 + 1 + ((y.2.2.2.2.2.1.length : Nat) : Int) + ((y.2.2.2.2.2.2.length : Nat) : Int))
def zI : List qA -> Nat
 | [] => 0
 | y :: r => (5 + y.2.2.2.2.2.1.length + y.2.2.2.2.2.2.length) + zI r
theorem qL5 : ∀ (ys l : List qA) (k x : Int), l.drop x.toNat = ys -> 0 <= x -> l.length <= 1099511627776 -> 0 < k -> k + (zI ys : Int) <= 4611686018427387904 -> (∀ y ∈ ys, y.2.2.2.2.2.1.length <= 1099511627776 /\ y.2.2.2.2.2.2.length <= 1099511627776) -> ∀ (Kx : Nat -> Int -> List qA -> Prop),
  (Ev (fun n => Z37.l2 n k x l (Kx n)) ↔ Ev (fun n => Kx n (k + (zI ys : Int)) (l.take x.toNat ++ kS ys k)))
 | [], l, k, x, h, h0, hl, hk, hb, hy, Kx => by
  have := qO h h0
  refine Ev.suc.trans ?_
  simp (disch := omega) only [Z37.l2, Z37.l2.b, if_neg, decide_eq_true_eq, Ev.s2 Kx]
  rw [List.take_of_length_le (by omega), kS, List.append_nil]
  refine qEo ?_; simp [zI]
 | y :: ys, l, k, x, h, h0, hl, hk, hb, hy, Kx => by
  obtain ⟨e1, e2, e3⟩ := qD h h0
  have hy0 := hy y List.mem_cons_self
  simp only [List.length_cons, zI] at hb
  refine Ev.suc.trans ?_
  simp (disch := first | assumption | exact hy0.1 | exact hy0.2 | exact hy0.2.1 | exact hy0.2.2 | exact hy0.2.2.1 | exact hy0.2.2.2 | omega) only [Z37.l2, Z37.l2.b, if_pos, decide_eq_true_eq, Ev.s2 Kx, qB, qG, qDX, qA1, List.length_set, List.set_set, e2, qO9, qO3]
  rw [qL5 ys _ _ (x + 1) (qCm e3 (by omega)) (by omega) (by simpa using hl) (by omega) (by omega) (fun y hy' => hy y (List.mem_cons_of_mem _ hy')), Ev.s2 Kx, wH (by omega) (by omega), List.append_assoc, kS]
  simp only [List.length_cons, zI, List.singleton_append]
  exact qEn (by omega) (by congr 2 <;> first | rfl | omega | (congr 1; omega) | skip)
theorem qO7 {l : List qA} {k : Int} (hl : l.length <= 1099511627776) (hk : 0 < k) (hb : k + (zI l : Int) <= 4611686018427387904) (hy : ∀ y ∈ l, y.2.2.2.2.2.1.length <= 1099511627776 /\ y.2.2.2.2.2.2.length <= 1099511627776) (R : Nat -> Int -> List qA -> Prop) :
  Ev (fun n => Z37.c n l k (R n)) ↔ Ev (fun n => R n (k + (zI l : Int)) (kS l k)) := by
 refine Ev.suc.trans ?_
 simp only [Z37.c, Z37.w]
 rw [qL5 l l k 0 rfl (by omega) hl hk hb hy, Ev.s2 R]
 rfl
theorem kE {l : List qA} (h : (l.length + qU l) <= 1099511627776) : ∀ y : qA, y ∈ l -> y.2.2.2.2.2.1.length <= 1099511627776 /\ y.2.2.2.2.2.2.length <= 1099511627776 := by
 intro y hy
 have := kN hy
 exact ⟨(by omega), (by omega)⟩
theorem qAl : ∀ {l : List qA}, zI l <= 8 * (l.length + qU l)
 | [] => by simp [zI]
 | y :: r => by
  have := qAl (l := r)
  simp only [zI, qU, List.length_cons]; omega
theorem qCT : ∀ {l : List qA} {k : Int}, (kS l k).length = l.length
 | [], _ => rfl
 | y :: l, k => by simp [kS, qCT]
theorem qKn {a0 : List (Int × Int × Int × Int × Int × List (Int) × List (Int))} {k : Int} (hk : 0 < k) (hb : k + (((zI a0) : Nat) : Int) <= 4611686018427387904) (g0 : a0.length <= 1099511627776) (g1 : (∀ y : qA, y ∈ a0 -> y.2.2.2.2.2.1.length <= 1099511627776 /\ y.2.2.2.2.2.2.length <= 1099511627776)) (R : Nat -> Int -> List (Int × Int × Int × Int × Int × List (Int) × List (Int)) -> Prop) :
  Ev (fun n => Z38.c n a0 k (R n)) ↔ Ev (fun n => R n (k + (((zI a0) : Nat) : Int)) (kS a0 k)) := by
 refine Ev.suc.trans ?_
 simp (disch := first | assumption | omega) only [Z38.c, Z38.w, qO7, Ev.s2 R]
theorem qL8 {l : List Int} (hl : l.length <= 1099511627776) : ∀ (ys : List Int) (k x : Int), l.drop x.toNat = wK ys k -> 0 <= x -> 0 < k -> k + (ys.length : Int) <= 4611686018427387904 -> ∀ (Kx Kr : Nat -> Int -> Prop),
  (Ev (fun n => Z34.l2 n l k x (Kx n) (Kr n)) ↔ Ev (fun n => Kx n (k + (ys.length : Int))))
 | [], k, x, h, h0, hk, hb, Kx, Kr => by
  have := qO h h0
  refine Ev.suc.trans ?_
  simp (disch := omega) only [Z34.l2, Z34.l2.b, if_neg, decide_eq_true_eq, Ev.s1 Kx]
  refine zB ?_; simp
 | y :: ys, k, x, h, h0, hk, hb, Kx, Kr => by
  obtain ⟨e1, e2, e3⟩ := qD h h0
  simp only [List.length_cons] at hb
  refine Ev.suc.trans ?_
  simp (disch := first | assumption | exact hy0.1 | exact hy0.2 | exact hy0.2.1 | exact hy0.2.2 | exact hy0.2.2.1 | exact hy0.2.2.2 | omega) only [Z34.l2, Z34.l2.b, if_pos, if_neg, decide_eq_true_eq, Bool.not_eq_true', decide_eq_false_iff_not, not_true, if_false, Ev.s1 Kx, qB, qG, qDX, e2, beq_self_eq_true, Bool.true_eq_false, Bool.not_true, Bool.false_eq_true, decide_true, decide_not, Ev.iteI]
  rw [qL8 hl ys _ (x + 1) (by first | exact e3 | (rw [e3]; congr 1 <;> omega)) (by omega) (by omega) (by omega), Ev.s1 Kx]
  refine zB ?_; simp only [List.length_cons]; try omega
theorem qPd {l : List Int} {k : Int} (hl : l.length <= 1099511627776) (hk : 0 < k) (hb : k + (l.length : Int) <= 4611686018427387904) (R : Nat -> Int -> Prop) :
  Ev (fun n => Z34.c n (wK l k) k (R n)) ↔ Ev (fun n => R n (k + (l.length : Int))) := by
 refine Ev.suc.trans ?_
 simp only [Z34.c, Z34.w]
 rw [qL8 (by rw [qBW]; exact hl) l k 0 rfl (by omega) hk hb, Ev.s1 R]
theorem qMa {l : List Int} (hl : l.length <= 1099511627776) : ∀ (ys : List Int) (k x : Int), l.drop x.toNat = yI ys k -> 0 <= x -> 0 < k -> k + (ys.length : Int) <= 4611686018427387904 -> ∀ (Kx Kr : Nat -> Int -> Prop),
  (Ev (fun n => Z31.l2 n l k x (Kx n) (Kr n)) ↔ Ev (fun n => Kx n (k + (ys.length : Int))))
 | [], k, x, h, h0, hk, hb, Kx, Kr => by
  have := qO h h0
  refine Ev.suc.trans ?_
  simp (disch := omega) only [Z31.l2, Z31.l2.b, if_neg, decide_eq_true_eq, Ev.s1 Kx]
  refine zB ?_; simp
 | y :: ys, k, x, h, h0, hk, hb, Kx, Kr => by
  obtain ⟨e1, e2, e3⟩ := qD h h0
  simp only [List.length_cons] at hb
  refine Ev.suc.trans ?_
  simp (disch := first | assumption | exact hy0.1 | exact hy0.2 | exact hy0.2.1 | exact hy0.2.2 | exact hy0.2.2.1 | exact hy0.2.2.2 | omega) only [Z31.l2, Z31.l2.b, if_pos, if_neg, decide_eq_true_eq, Bool.not_eq_true', decide_eq_false_iff_not, not_true, if_false, Ev.s1 Kx, qB, qG, qDX, e2, beq_self_eq_true, Bool.true_eq_false, Bool.not_true, Bool.false_eq_true, decide_true, decide_not, Ev.iteI]
  rw [qMa hl ys _ (x + 1) (by first | exact e3 | (rw [e3]; congr 1 <;> omega)) (by omega) (by omega) (by omega), Ev.s1 Kx]
  refine zB ?_; simp only [List.length_cons]; try omega
theorem qPj {l : List Int} {k : Int} (hl : l.length <= 1099511627776) (hk : 0 < k) (hb : k + (l.length : Int) <= 4611686018427387904) (R : Nat -> Int -> Prop) :
  Ev (fun n => Z31.c n (yI l k) k (R n)) ↔ Ev (fun n => R n (k + (l.length : Int))) := by
 refine Ev.suc.trans ?_
 simp only [Z31.c, Z31.w]
 rw [qMa (by rw [qCU]; exact hl) l k 0 rfl (by omega) hk hb, Ev.s1 R]
theorem qL9 {l : List qA} (hl : l.length <= 1099511627776) : ∀ (ys : List qA) (k x : Int), l.drop x.toNat = kS ys k -> 0 <= x -> 0 < k -> k + (zI ys : Int) <= 4611686018427387904 -> (∀ y ∈ ys, y.2.2.2.2.2.1.length <= 1099511627776 /\ y.2.2.2.2.2.2.length <= 1099511627776) -> ∀ (Kx Kr : Nat -> Int -> Prop),
  (Ev (fun n => Z32.l2 n l k x (Kx n) (Kr n)) ↔ Ev (fun n => Kx n (k + (zI ys : Int))))
 | [], k, x, h, h0, hk, hb, hy, Kx, Kr => by
  have := qO h h0
  refine Ev.suc.trans ?_
  simp (disch := omega) only [Z32.l2, Z32.l2.b, if_neg, decide_eq_true_eq, Ev.s1 Kx]
  refine zB ?_; simp [zI]
 | y :: ys, k, x, h, h0, hk, hb, hy, Kx, Kr => by
  obtain ⟨e1, e2, e3⟩ := qD h h0
  have hy0 := hy y List.mem_cons_self
  simp only [List.length_cons, zI] at hb
  refine Ev.suc.trans ?_
  simp (disch := first | assumption | exact hy0.1 | exact hy0.2 | exact hy0.2.1 | exact hy0.2.2 | exact hy0.2.2.1 | exact hy0.2.2.2 | omega) only [Z32.l2, Z32.l2.b, if_pos, if_neg, decide_eq_true_eq, Bool.not_eq_true', decide_eq_false_iff_not, not_true, if_false, Ev.s1 Kx, qB, qG, qDX, e2, qPj, qPd, beq_self_eq_true, Bool.true_eq_false, Bool.not_true, Bool.false_eq_true, decide_true, decide_not, Ev.iteI]
  rw [qL9 hl ys _ (x + 1) (by first | exact e3 | (rw [e3]; congr 1 <;> omega)) (by omega) (by omega) (by omega) (fun y hy' => hy y (List.mem_cons_of_mem _ hy')), Ev.s1 Kx]
  refine zB ?_; simp only [List.length_cons, zI]; try omega
theorem qPh {l : List qA} {k : Int} (hl : l.length <= 1099511627776) (hk : 0 < k) (hb : k + (zI l : Int) <= 4611686018427387904) (hy : ∀ y ∈ l, y.2.2.2.2.2.1.length <= 1099511627776 /\ y.2.2.2.2.2.2.length <= 1099511627776) (R : Nat -> Int -> Prop) :
  Ev (fun n => Z32.c n (kS l k) k (R n)) ↔ Ev (fun n => R n (k + (zI l : Int))) := by
 refine Ev.suc.trans ?_
 simp only [Z32.c, Z32.w]
 rw [qL9 (by rw [qCT]; exact hl) l k 0 rfl (by omega) hk hb hy, Ev.s1 R]
theorem qPf {a0 : List (Int × Int × Int × Int × Int × List (Int) × List (Int))} {k : Int} (hk : 0 < k) (hb : k + (((zI a0) : Nat) : Int) <= 4611686018427387904) (g0 : a0.length <= 1099511627776) (g1 : (∀ y : qA, y ∈ a0 -> y.2.2.2.2.2.1.length <= 1099511627776 /\ y.2.2.2.2.2.2.length <= 1099511627776)) (R : Nat -> Int -> Prop) :
  Ev (fun n => Z33.c n (kS a0 k) k (R n)) ↔ Ev (fun n => R n (k + (((zI a0) : Nat) : Int))) := by
 refine Ev.suc.trans ?_
 simp (disch := first | assumption | omega) only [Z33.c, Z33.w, qPh, Ev.s1 R, if_neg, decide_eq_true_eq]
theorem qP5 {l : List Int} (h : Gd (.sl 0 (.int .u64)) l) : Wd l := fun x hx => ⟨(h.2 x hx).1, (h.2 x hx).2⟩
theorem qIR {t : List qA} (h : Gd (.sl 0 qGU) t) (hz : t.length + qU t <= 1099511627776) : ∀ x : qA, x ∈ t -> Wd x.2.2.2.2.2.1 /\ x.2.2.2.2.2.2.length <= 1099511627776 :=
 fun x hx => ⟨qP5 (h.2 x hx).2.2.2.2.2.1, by have := kN hx; omega⟩
theorem qI8 : ∀ {a b : List qA}, qU (a ++ b) = qU a + qU b
 | [], b => by simp [qU]
 | x :: a, b => by rw [List.cons_append, qU, qU, qI8]; omega
theorem qJD {to : List Int} {x : qA} : qU [zT to x] = x.2.2.2.2.2.1.length + x.2.2.2.2.2.2.length := by
 have e1 : (zT to x).2.2.2.2.2.1 = x.2.2.2.2.2.1 := rfl
 have e2 : (zT to x).2.2.2.2.2.2.length = x.2.2.2.2.2.2.length := List.length_map _
 simp only [qU]
 rw [e1, e2]; omega
theorem qBu : ∀ {ys : List qA} {to : List Int} {a : List qA}, (qE ys to a).2.length + qU (qE ys to a).2 <= a.length + qU a + (ys.length + qU ys)
 | [], to, a => by rw [qE]; simp [qU]
 | x :: ys, to, a => by
  rw [qE, List.length_cons, qU]
  have := qBu (ys := ys) (to := to ++ [(yL (zT to x) a).1]) (a := (yL (zT to x) a).2)
  have h2 : (yL (zT to x) a).2.length + qU (yL (zT to x) a).2 <= a.length + qU a + (1 + (x.2.2.2.2.2.1.length + x.2.2.2.2.2.2.length)) := by
   unfold yL
   split
   ·simp only [List.length_append, List.length_cons, List.length_nil, qI8, qJD]; omega
   ·simp only; omega
  omega
theorem qGp {v top : Int} : ∀ {ys : List qA} {to : List Int} {N : List qA}, (jN v top ys to N).2.length + qU (jN v top ys to N).2 <= N.length + qU N + (ys.length + qU ys)
 | [], to, N => by rw [jN]; simp [qU]
 | x :: ys, to, N => by
  rw [jN, List.length_cons, qU]
  split
  ·have := qGp (v := v) (top := top) (ys := ys) (to := to ++ [top]) (N := N); omega
  ·have := qGp (v := v) (top := top) (ys := ys) (to := to ++ [(N.length : Int)]) (N := N ++ [zT to x])
   simp only [List.length_append, List.length_cons, List.length_nil, qI8, qJD] at this
   omega
theorem qKU {d : List qQ} {t u : List qA} {v : Int} : (kO d t v u).1.length + qU (kO d t v u).1 <= (t.length + qU t) + (u.length + qU u) := by
 unfold kO
 split
 ·simp [qU]
 ·rename_i h
  have h1 : ¬ vB d t < 0 := fun hh => h (.inl hh)
  have h3 : 0 <= v /\ v <= (d.length : Int) - 1 := Classical.byContradiction fun hh => h (.inr (.inl hh))
  have h4 : vB d u = (rd d v.toNat).2 := Classical.byContradiction fun hh => h (.inr (.inr hh))
  obtain ⟨hdo, ht⟩ := kH h1
  have h2 : ¬ vB d u < 0 := by have := qC1 hdo h3.1 h3.2; omega
  obtain ⟨_, hu⟩ := kH h2
  have key : (qBz t v u).length + qU (qBz t v u) <= (t.length + qU t) + (u.length + qU u) := by
   obtain ⟨_, _, _, _, _, f6⟩ := qBy (v := v) ht hu rfl
   have j := qGp (v := v) (top := (u.length : Int) - 1) (ys := t) (to := []) (N := u)
   unfold qBz
   rcases f6 with ⟨e, _, _⟩ | ⟨e, _⟩
   ·rw [e]
    have := qBu (ys := (jN v ((u.length : Int) - 1) t [] u).2) (to := []) (a := [])
    simp only [List.length_nil, qU, Nat.zero_add] at this
    omega
   ·rw [e]
    have := qBu (ys := t) (to := []) (a := [])
    simp only [List.length_nil, qU, Nat.zero_add] at this
    omega
  split
  ·simp [qU]
  ·exact key
theorem replace_law {d : List qQ} {t u : List qA} {v : Int} (hd : Gd (.sl 0 qNn) d) (ht : Gd (.sl 0 qGU) t) (hv : Gd (.int .i64) v) (hu : Gd (.sl 0 qGU) u) (K : Bool -> Prop) :
  True /\ (K true -> Ev (fun n => laws_FnExactReplace.c n d t v u K)) := by
 refine ⟨trivial, fun hK => ?_⟩
 refine Ev.succ ?_
 simp only [laws_FnExactReplace.c, laws_FnExactReplace.w]
 rw [qOX (by omega) (by omega) hd.1 (qH6 hd)]
 by_cases z1 : ((d.length + yA d : Nat) : Int) <= 1048576
 rotate_left
 ·rw [qIW z1]; exact Ev.pos (by simp) (Ev.const hK)
 rw [qIV z1]
 refine Ev.neg (by simp; omega) ?_
 rw [qL1 (by omega) (by omega) ht.1 (qCu ht)]
 by_cases z2 : ((t.length + qU t : Nat) : Int) <= 1048576 - ((d.length + yA d : Nat) : Int)
 rotate_left
 ·rw [qIW z2]; exact Ev.pos (by simp) (Ev.const hK)
 rw [qIV z2]
 refine Ev.neg (by simp; omega) ?_
 rw [qL1 (by omega) (by omega) hu.1 (qCu hu)]
 by_cases z3 : ((u.length + qU u : Nat) : Int) <= 1048576 - ((d.length + yA d : Nat) : Int) - ((t.length + qU t : Nat) : Int)
 rotate_left
 ·rw [qIW z3]; exact Ev.pos (by simp) (Ev.const hK)
 rw [qIV z3]
 refine Ev.neg (by simp; omega) ?_
 simp only [and_self]
 have t1 := fun R => qOI (l := d) (by omega) R
 have t2 := fun R => qLX (a0 := t) (by omega) R
 have t3 := fun R => qLX (a0 := u) (by omega) R
 have wt := qIR ht (by omega)
 have wu := qIR hu (by omega)
 have sS := fun R => qKT (d := d) (t := t) (u := u) (v := v) (by omega) wt wu R
 have sI := fun R hR => qKV (d := d) (t := t) (u := u) (v := v) (by omega) (fun x hx => (wt x hx).1) (fun x hx => (wu x hx).1) R hR
 have hz := qKU (d := d) (t := t) (u := u) (v := v)
 generalize kO d t v u = rp at sS sI hz
 obtain ⟨r, b⟩ := rp
 simp only at sS sI hz
 have e0 := fun R => qKo (a0 := r) (b0 := r) (by omega) (qAG (by omega)) R
 have e1 := fun R => qPu (l := d) (l' := d) (by omega) R
 have e2 := fun R => qKo (a0 := t) (b0 := t) (by omega) (qAG (by omega)) R
 have e3 := fun R => qKo (a0 := u) (b0 := u) (by omega) (qAG (by omega)) R
 have c0 := qAl (l := r)
 have c1 := qFP (l := d)
 have c2 := qAl (l := t)
 have c3 := qAl (l := u)
 have m1 := fun R => qPb (l := d) (k := 1) (by omega) (by omega) (by omega) R
 have m2 := fun R => qKn (a0 := t) (k := 1 + (yT d : Int)) (by omega) (by omega) (by omega) (kE (by omega)) R
 have m3 := fun R => qKn (a0 := u) (k := 1 + (yT d : Int) + (zI t : Int)) (by omega) (by omega) (by omega) (kE (by omega)) R
 have m0 := fun R => qKn (a0 := r) (k := 1) (by omega) (by omega) (by omega) (kE (by omega)) R
 have k0 := fun R => qPf (a0 := r) (k := 1) (by omega) (by omega) (by omega) (kE (by omega)) R
 simp only [beq_self_eq_true, decide_true, and_self] at e0 e1 e2 e3
 rw [t1, t2, t3]
 refine (sS _).2 ?_
 refine Ev.succ ?_
 simp only [laws_FnExactReplace.q12, laws_FnExactReplace.q12.b, laws_FnExactReplace.j2, laws_FnExactReplace.j1, and_self]
 rw [t1, t2, t3]
 refine sI _ ?_
 rw [e0]
 refine Ev.pos (by simp) (Ev.neg (by simp) ?_)
 rw [t1, e1]
 refine Ev.neg (by simp) ?_
 rw [t2, e2]
 refine Ev.neg (by simp) ?_
 rw [t3, e3]
 refine Ev.neg (by simp) ?_
 rw [m1, m2, m3]
 refine Ev.pos (by simp; omega) ?_
 rw [e0]
 refine Ev.pos (by simp) (Ev.neg (by simp) ?_)
 rw [m0, k0]
 refine Ev.neg (by simp; omega) (Ev.neg (by simp) ?_)
 rw [t1, t2, t3]
 refine sI _ ?_
 refine Ev.succ ?_
 simp only [laws_FnExactReplace.q39, laws_FnExactReplace.q39.b, laws_FnExactReplace.j0]
 rw [e0]
 refine Ev.pos (by simp) (Ev.neg (by simp) ?_)
 rw [k0]
 exact Ev.neg (by simp; omega) (Ev.neg (by simp) (Ev.const hK))
end Go.Vsi
end
