/- What the told functions answer. No statement is proved here. -/
import Derived.Test.YtbpgfmandlhnaaaGreatB1

section
set_option linter.unusedVariables false
set_option linter.unusedSimpArgs false
set_option synthInstance.maxSize 4096
namespace Go.Vsi
theorem Z57_ev {a0 : List UInt8} {a1 : Int} {left : Int} (h0 : -1 <= left) (h1 : left <= 1099511627776) (h2 : a0.length <= 9223372036854775807) (R : Nat -> Int -> Prop) :
  Ev (fun n => Z57.c n a0 a1 left (R n)) ↔ Ev (fun n => R n (szr left (a0.length))) := by
 refine Ev.suc.trans ?_
 simp (disch := first | assumption | omega | exact szr_m1 (by assumption) | exact szr_le' (by assumption) (by assumption)) only [Z57.c, Z57.w, wrap64, Ev.iteI, decide_eq_true_eq, Ev.s1 R]
 unfold szr; (repeat' split) <;> first | rfl | (exfalso; omega) | exact ev_arg (by omega)
def sDeclS : List tDecl -> Nat
 | [] => 0
 | y :: r => y.1.length + sDeclS r
theorem sDeclS_mem {y : tDecl} : ∀ {l : List tDecl}, y ∈ l -> y.1.length <= sDeclS l
 | [], h => absurd h List.not_mem_nil
 | a :: l, h => by
  rw [sDeclS]
  rcases List.mem_cons.1 h with rfl | h
  ·omega
  ·have := sDeclS_mem h; omega
abbrev yDecl : Ty := .prod .str (.int .i64)
theorem szDeclS_gd {l : List tDecl} (h : Gd (.sl 0 yDecl) l) : ∀ y : tDecl, y ∈ l -> y.1.length <= 9223372036854775807 := fun y hy => (h.2 y hy).1
theorem Z58_lp {l : List tDecl} (hl : l.length <= 9223372036854775807) : ∀ (ys : List tDecl) (x left : Int), l.drop x.toNat = ys -> 0 <= x -> 0 <= left -> left <= 1099511627776 -> (∀ y ∈ ys, y.1.length <= 9223372036854775807) -> ∀ (Kx : Nat -> Int -> Prop),
  (Ev (fun n => Z58.l5 n l left x (Kx n) (Kx n)) ↔ Ev (fun n => Kx n (szr left (sDeclS ys))))
 | [], x, left, h, h0, h1, h2, hy, Kx => by
  have := drop_nil h h0
  refine Ev.suc.trans ?_
  simp (disch := omega) only [Z58.l5, Z58.l5.b, if_neg, decide_eq_true_eq, Ev.s1 Kx, sDeclS]
  refine ev_arg ?_; unfold szr; split <;> omega
 | y :: ys, x, left, h, h0, h1, h2, hy, Kx => by
  obtain ⟨e1, e2, e3⟩ := drop_cons h h0
  have hy0 := hy y List.mem_cons_self
  refine Ev.suc.trans ?_
  simp (disch := first | assumption | exact hy0.1 | exact hy0.2 | exact hy0.2.1 | exact hy0.2.2 | exact hy0.2.2.1 | exact hy0.2.2.2 | omega) only [Z58.l5, Z58.l5.b, if_pos, decide_eq_true_eq, Ev.s1 Kx, grd_dec2, e2, Z57_ev, Ev.iteI, wrap64]
  split
  ·rename_i hs
   rw [sDeclS, szr_back hs]
  ·rename_i hs
   rw [Z58_lp hl ys (x + 1) _ e3 (by omega) (by omega) (szr_le' (by omega) h2) (fun y hy' => hy y (List.mem_cons_of_mem _ hy')), sDeclS, szr_two h1 hs, Ev.s1 Kx]
theorem Z58_ev {l : List tDecl} {left : Int} (h0 : -1 <= left) (h1 : left <= 1099511627776) (hl : l.length <= 9223372036854775807) (hy : ∀ y ∈ l, y.1.length <= 9223372036854775807) (R : Nat -> Int -> Prop) :
  Ev (fun n => Z58.c n l left (R n)) ↔ Ev (fun n => R n (szr left (l.length + sDeclS l))) := by
 refine Ev.suc.trans ?_
 simp (disch := omega) only [Z58.c, Z58.w, wrap64, Ev.iteI, decide_eq_true_eq, Ev.s1 R]
 split
 ·refine ev_arg ?_; unfold szr; split <;> omega
 ·rw [Z58_lp hl l 0 _ rfl (by omega) (by omega) (by omega) hy, Ev.s1 R]
  refine ev_arg ?_; unfold szr; (repeat' split) <;> omega
theorem Z65_ev {l : List Int} {left : Int} (h0 : -1 <= left) (h1 : left <= 1099511627776) (hl : l.length <= 9223372036854775807) (R : Nat -> Int -> Prop) :
  Ev (fun n => Z65.c n l left (R n)) ↔ Ev (fun n => R n (szr left l.length)) := by
 refine Ev.suc.trans ?_
 simp (disch := omega) only [Z65.c, Z65.w, wrap64, Ev.iteI, decide_eq_true_eq, Ev.s1 R]
 unfold szr; split <;> split <;> first | rfl | omega | exact ev_arg (by omega)
theorem Z56_ev {a0 : Int} {a1 : List Int} {left : Int} (h0 : -1 <= left) (h1 : left <= 1099511627776) (h2 : a1.length <= 9223372036854775807) (R : Nat -> Int -> Prop) :
  Ev (fun n => Z56.c n a0 a1 left (R n)) ↔ Ev (fun n => R n (szr left (a1.length))) := by
 refine Ev.suc.trans ?_
 simp (disch := first | assumption | omega | exact szr_m1 (by assumption) | exact szr_le' (by assumption) (by assumption)) only [Z56.c, Z56.w, Z65_ev, wrap64, Ev.iteI, decide_eq_true_eq, Ev.s1 R]
 unfold szr; (repeat' split) <;> first | rfl | (exfalso; omega) | exact ev_arg (by omega)
theorem Z59_ev {l : List Int} {left : Int} (h0 : -1 <= left) (h1 : left <= 1099511627776) (hl : l.length <= 9223372036854775807) (R : Nat -> Int -> Prop) :
  Ev (fun n => Z59.c n l left (R n)) ↔ Ev (fun n => R n (szr left l.length)) := by
 refine Ev.suc.trans ?_
 simp (disch := omega) only [Z59.c, Z59.w, wrap64, Ev.iteI, decide_eq_true_eq, Ev.s1 R]
 unfold szr; split <;> split <;> first | rfl | omega | exact ev_arg (by omega)
theorem Z62_ev {a0 : Int} {a1 : Int} {a2 : Int} {a3 : Int} {a4 : Int} {a5 : List Int} {a6 : List Int} {left : Int} (h0 : -1 <= left) (h1 : left <= 1099511627776) (h2 : a5.length <= 9223372036854775807) (h3 : a6.length <= 9223372036854775807) (R : Nat -> Int -> Prop) :
  Ev (fun n => Z62.c n a0 a1 a2 a3 a4 a5 a6 left (R n)) ↔ Ev (fun n => R n (szr left (a5.length + a6.length))) := by
 refine Ev.suc.trans ?_
 simp (disch := first | assumption | omega | exact szr_m1 (by assumption) | exact szr_le' (by assumption) (by assumption)) only [Z62.c, Z62.w, Z56_ev, Z59_ev, wrap64, Ev.iteI, decide_eq_true_eq, Ev.s1 R]
 unfold szr; (repeat' split) <;> first | rfl | (exfalso; omega) | exact ev_arg (by omega)
def sTNodeS : List tTNode -> Nat
 | [] => 0
 | y :: r => (y.2.2.2.2.2.1.length + y.2.2.2.2.2.2.length) + sTNodeS r
theorem sTNodeS_mem {y : tTNode} : ∀ {l : List tTNode}, y ∈ l -> y.2.2.2.2.2.1.length + y.2.2.2.2.2.2.length <= sTNodeS l
 | [], h => absurd h List.not_mem_nil
 | a :: l, h => by
  rw [sTNodeS]
  rcases List.mem_cons.1 h with rfl | h
  ·omega
  ·have := sTNodeS_mem h; omega
abbrev yTNode : Ty := .prod (.int .i64) (.prod (.int .i64) (.prod (.int .i64) (.prod (.int .i64) (.prod (.int .i64) (.prod (.sl 0 (.int .u64)) (.sl 0 (.int .i64)))))))
theorem Z63_lp {l : List tTNode} (hl : l.length <= 9223372036854775807) : ∀ (ys : List tTNode) (x left : Int), l.drop x.toNat = ys -> 0 <= x -> 0 <= left -> left <= 1099511627776 -> (∀ y ∈ ys, y.2.2.2.2.2.1.length <= 9223372036854775807 /\ y.2.2.2.2.2.2.length <= 9223372036854775807) -> ∀ (Kx : Nat -> Int -> Prop),
  (Ev (fun n => Z63.l5 n l left x (Kx n) (Kx n)) ↔ Ev (fun n => Kx n (szr left (sTNodeS ys))))
 | [], x, left, h, h0, h1, h2, hy, Kx => by
  have := drop_nil h h0
  refine Ev.suc.trans ?_
  simp (disch := omega) only [Z63.l5, Z63.l5.b, if_neg, decide_eq_true_eq, Ev.s1 Kx, sTNodeS]
  refine ev_arg ?_; unfold szr; split <;> omega
 | y :: ys, x, left, h, h0, h1, h2, hy, Kx => by
  obtain ⟨e1, e2, e3⟩ := drop_cons h h0
  have hy0 := hy y List.mem_cons_self
  refine Ev.suc.trans ?_
  simp (disch := first | assumption | exact hy0.1 | exact hy0.2 | exact hy0.2.1 | exact hy0.2.2 | exact hy0.2.2.1 | exact hy0.2.2.2 | omega) only [Z63.l5, Z63.l5.b, if_pos, decide_eq_true_eq, Ev.s1 Kx, grd_dec2, e2, Z62_ev, Ev.iteI, wrap64]
  split
  ·rename_i hs
   rw [sTNodeS, szr_back hs]
  ·rename_i hs
   rw [Z63_lp hl ys (x + 1) _ e3 (by omega) (by omega) (szr_le' (by omega) h2) (fun y hy' => hy y (List.mem_cons_of_mem _ hy')), sTNodeS, szr_two h1 hs, Ev.s1 Kx]
theorem Z63_ev {l : List tTNode} {left : Int} (h0 : -1 <= left) (h1 : left <= 1099511627776) (hl : l.length <= 9223372036854775807) (hy : ∀ y ∈ l, y.2.2.2.2.2.1.length <= 9223372036854775807 /\ y.2.2.2.2.2.2.length <= 9223372036854775807) (R : Nat -> Int -> Prop) :
  Ev (fun n => Z63.c n l left (R n)) ↔ Ev (fun n => R n (szr left (l.length + sTNodeS l))) := by
 refine Ev.suc.trans ?_
 simp (disch := omega) only [Z63.c, Z63.w, wrap64, Ev.iteI, decide_eq_true_eq, Ev.s1 R]
 split
 ·refine ev_arg ?_; unfold szr; split <;> omega
 ·rw [Z63_lp hl l 0 _ rfl (by omega) (by omega) (by omega) hy, Ev.s1 R]
  refine ev_arg ?_; unfold szr; (repeat' split) <;> omega
theorem Z64_ev {a0 : List (Int × Int × Int × Int × Int × List (Int) × List (Int))} {left : Int} (h0 : -1 <= left) (h1 : left <= 1099511627776) (h2 : a0.length <= 9223372036854775807) (h3 : (∀ y : tTNode, y ∈ a0 -> y.2.2.2.2.2.1.length <= 9223372036854775807 /\ y.2.2.2.2.2.2.length <= 9223372036854775807)) (R : Nat -> Int -> Prop) :
  Ev (fun n => Z64.c n a0 left (R n)) ↔ Ev (fun n => R n (szr left ((a0.length + sTNodeS a0)))) := by
 refine Ev.suc.trans ?_
 simp (disch := first | assumption | omega | exact szr_m1 (by assumption) | exact szr_le' (by assumption) (by assumption)) only [Z64.c, Z64.w, Z63_ev, wrap64, Ev.iteI, decide_eq_true_eq, Ev.s1 R]
 unfold szr; (repeat' split) <;> first | rfl | (exfalso; omega) | exact ev_arg (by omega)
theorem Z60_ev {a0 : Int} {a1 : Bool} {a2 : List (Int × Int × Int × Int × Int × List (Int) × List (Int))} {a3 : List (Int × Int × Int × Int × Int × List (Int) × List (Int))} {left : Int} (h0 : -1 <= left) (h1 : left <= 1099511627776) (h2 : a2.length <= 9223372036854775807) (h3 : (∀ y : tTNode, y ∈ a2 -> y.2.2.2.2.2.1.length <= 9223372036854775807 /\ y.2.2.2.2.2.2.length <= 9223372036854775807)) (h4 : a3.length <= 9223372036854775807) (h5 : (∀ y : tTNode, y ∈ a3 -> y.2.2.2.2.2.1.length <= 9223372036854775807 /\ y.2.2.2.2.2.2.length <= 9223372036854775807)) (R : Nat -> Int -> Prop) :
  Ev (fun n => Z60.c n a0 a1 a2 a3 left (R n)) ↔ Ev (fun n => R n (szr left (((a2.length + sTNodeS a2)) + ((a3.length + sTNodeS a3))))) := by
 refine Ev.suc.trans ?_
 simp (disch := first | assumption | omega | exact szr_m1 (by assumption) | exact szr_le' (by assumption) (by assumption)) only [Z60.c, Z60.w, Z64_ev, wrap64, Ev.iteI, decide_eq_true_eq, Ev.s1 R]
 unfold szr; (repeat' split) <;> first | rfl | (exfalso; omega) | exact ev_arg (by omega)
def sLiteralS : List tLiteral -> Nat
 | [] => 0
 | y :: r => (((y.2.2.1.length + sTNodeS y.2.2.1)) + ((y.2.2.2.length + sTNodeS y.2.2.2))) + sLiteralS r
theorem sLiteralS_mem {y : tLiteral} : ∀ {l : List tLiteral}, y ∈ l -> ((y.2.2.1.length + sTNodeS y.2.2.1)) + ((y.2.2.2.length + sTNodeS y.2.2.2)) <= sLiteralS l
 | [], h => absurd h List.not_mem_nil
 | a :: l, h => by
  rw [sLiteralS]
  rcases List.mem_cons.1 h with rfl | h
  ·omega
  ·have := sLiteralS_mem h; omega
abbrev yLiteral : Ty := .prod (.int .i64) (.prod .bool (.prod (.sl 0 (.prod (.int .i64) (.prod (.int .i64) (.prod (.int .i64) (.prod (.int .i64) (.prod (.int .i64) (.prod (.sl 0 (.int .u64)) (.sl 0 (.int .i64))))))))) (.sl 0 (.prod (.int .i64) (.prod (.int .i64) (.prod (.int .i64) (.prod (.int .i64) (.prod (.int .i64) (.prod (.sl 0 (.int .u64)) (.sl 0 (.int .i64)))))))))))
theorem szLiteralS_gd {l : List tLiteral} (h : Gd (.sl 0 yLiteral) l) : ∀ y : tLiteral, y ∈ l -> y.2.2.1.length <= 9223372036854775807 /\ (∀ z : tTNode, z ∈ y.2.2.1 -> z.2.2.2.2.2.1.length <= 9223372036854775807 /\ z.2.2.2.2.2.2.length <= 9223372036854775807) /\ y.2.2.2.length <= 9223372036854775807 /\ (∀ z : tTNode, z ∈ y.2.2.2 -> z.2.2.2.2.2.1.length <= 9223372036854775807 /\ z.2.2.2.2.2.2.length <= 9223372036854775807) := fun y hy => ⟨(h.2 y hy).2.2.1.1, (fun z hz => ⟨((h.2 y hy).2.2.1.2 z hz).2.2.2.2.2.1.1, ((h.2 y hy).2.2.1.2 z hz).2.2.2.2.2.2.1⟩), (h.2 y hy).2.2.2.1, (fun z hz => ⟨((h.2 y hy).2.2.2.2 z hz).2.2.2.2.2.1.1, ((h.2 y hy).2.2.2.2 z hz).2.2.2.2.2.2.1⟩)⟩
theorem Z61_lp {l : List tLiteral} (hl : l.length <= 9223372036854775807) : ∀ (ys : List tLiteral) (x left : Int), l.drop x.toNat = ys -> 0 <= x -> 0 <= left -> left <= 1099511627776 -> (∀ y ∈ ys, y.2.2.1.length <= 9223372036854775807 /\ (∀ z : tTNode, z ∈ y.2.2.1 -> z.2.2.2.2.2.1.length <= 9223372036854775807 /\ z.2.2.2.2.2.2.length <= 9223372036854775807) /\ y.2.2.2.length <= 9223372036854775807 /\ (∀ z : tTNode, z ∈ y.2.2.2 -> z.2.2.2.2.2.1.length <= 9223372036854775807 /\ z.2.2.2.2.2.2.length <= 9223372036854775807)) -> ∀ (Kx : Nat -> Int -> Prop),
  (Ev (fun n => Z61.l5 n l left x (Kx n) (Kx n)) ↔ Ev (fun n => Kx n (szr left (sLiteralS ys))))
 | [], x, left, h, h0, h1, h2, hy, Kx => by
  have := drop_nil h h0
  refine Ev.suc.trans ?_
  simp (disch := omega) only [Z61.l5, Z61.l5.b, if_neg, decide_eq_true_eq, Ev.s1 Kx, sLiteralS]
  refine ev_arg ?_; unfold szr; split <;> omega
 | y :: ys, x, left, h, h0, h1, h2, hy, Kx => by
  obtain ⟨e1, e2, e3⟩ := drop_cons h h0
  have hy0 := hy y List.mem_cons_self
  refine Ev.suc.trans ?_
  simp (disch := first | assumption | exact hy0.1 | exact hy0.2 | exact hy0.2.1 | exact hy0.2.2 | exact hy0.2.2.1 | exact hy0.2.2.2 | omega) only [Z61.l5, Z61.l5.b, if_pos, decide_eq_true_eq, Ev.s1 Kx, grd_dec2, e2, Z60_ev, Ev.iteI, wrap64]
  split
  ·rename_i hs
   rw [sLiteralS, szr_back hs]
  ·rename_i hs
   rw [Z61_lp hl ys (x + 1) _ e3 (by omega) (by omega) (szr_le' (by omega) h2) (fun y hy' => hy y (List.mem_cons_of_mem _ hy')), sLiteralS, szr_two h1 hs, Ev.s1 Kx]
theorem Z61_ev {l : List tLiteral} {left : Int} (h0 : -1 <= left) (h1 : left <= 1099511627776) (hl : l.length <= 9223372036854775807) (hy : ∀ y ∈ l, y.2.2.1.length <= 9223372036854775807 /\ (∀ z : tTNode, z ∈ y.2.2.1 -> z.2.2.2.2.2.1.length <= 9223372036854775807 /\ z.2.2.2.2.2.2.length <= 9223372036854775807) /\ y.2.2.2.length <= 9223372036854775807 /\ (∀ z : tTNode, z ∈ y.2.2.2 -> z.2.2.2.2.2.1.length <= 9223372036854775807 /\ z.2.2.2.2.2.2.length <= 9223372036854775807)) (R : Nat -> Int -> Prop) :
  Ev (fun n => Z61.c n l left (R n)) ↔ Ev (fun n => R n (szr left (l.length + sLiteralS l))) := by
 refine Ev.suc.trans ?_
 simp (disch := omega) only [Z61.c, Z61.w, wrap64, Ev.iteI, decide_eq_true_eq, Ev.s1 R]
 split
 ·refine ev_arg ?_; unfold szr; split <;> omega
 ·rw [Z61_lp hl l 0 _ rfl (by omega) (by omega) (by omega) hy, Ev.s1 R]
  refine ev_arg ?_; unfold szr; (repeat' split) <;> omega
theorem Z67_ev {a0 : List UInt8} {a1 : Int} (h : a0.length <= 1048576) (R : Nat -> List UInt8 -> Int -> Prop) :
  Ev (fun n => Z67.c n a0 a1 (R n)) ↔ Ev (fun n => R n a0 a1) := by
 refine Ev.suc.trans ?_
 simp (disch := omega) only [Z67.c, Z67.w, Ev.s2 R]
theorem Z68_lp {l : List tDecl} (hl : l.length <= 1048576) : ∀ (ys : List tDecl) (x : Int) (o : List tDecl), l.drop x.toNat = ys -> 0 <= x -> o.length = l.length -> (∀ y ∈ ys, y.1.length <= 1048576) -> ∀ (Kx : Nat -> List tDecl -> Prop),
  (Ev (fun n => Z68.l3 n l x o (Kx n)) ↔ Ev (fun n => Kx n (o.take x.toNat ++ ys)))
 | [], x, o, h, h0, ho, hy, Kx => by
  have := drop_nil h h0
  refine Ev.suc.trans ?_
  simp (disch := omega) only [Z68.l3, Z68.l3.b, if_neg, decide_eq_true_eq, Ev.s1 Kx]
  rw [List.take_of_length_le (by omega), List.append_nil]
 | y :: ys, x, o, h, h0, ho, hy, Kx => by
  obtain ⟨e1, e2, e3⟩ := drop_cons h h0
  have hy0 := hy y List.mem_cons_self
  refine Ev.suc.trans ?_
  simp (disch := omega) only [Z68.l3, Z68.l3.b, if_pos, decide_eq_true_eq, Ev.s1 Kx, grd_dec2, e2, wrap64, Z67_ev]
  rw [Z68_lp hl ys (x + 1) _ e3 (by omega) (by simpa using ho) (fun y hy' => hy y (List.mem_cons_of_mem _ hy')), Ev.s1 Kx, take_set (by omega) (by omega), List.append_assoc]
  rfl
theorem Z68_ev {l : List tDecl} (h : (l.length + sDeclS l) <= 1048576) (R : Nat -> List tDecl -> Prop) :
  Ev (fun n => Z68.c n l (R n)) ↔ Ev (fun n => R n l) := by
 refine Ev.suc.trans ?_
 simp (disch := omega) only [Z68.c, Z68.w, grd_dec2, decide_true, Bool.and_true]
 rw [Z68_lp (by omega) l 0 _ rfl (by omega) (by simp) (fun y hy => by have := sDeclS_mem hy; omega), Ev.s1 R]
 simp
theorem Z75_lp {l : List Int} (hl : l.length <= 1048576) : ∀ (ys : List Int) (x : Int) (o : List Int), l.drop x.toNat = ys -> 0 <= x -> o.length = l.length -> ∀ (Kx : Nat -> List Int -> Prop),
  (Ev (fun n => Z75.l3 n l x o (Kx n)) ↔ Ev (fun n => Kx n (o.take x.toNat ++ ys)))
 | [], x, o, h, h0, ho, Kx => by
  have := drop_nil h h0
  refine Ev.suc.trans ?_
  simp (disch := omega) only [Z75.l3, Z75.l3.b, if_neg, decide_eq_true_eq, Ev.s1 Kx]
  rw [List.take_of_length_le (by omega), List.append_nil]
 | y :: ys, x, o, h, h0, ho, Kx => by
  obtain ⟨e1, e2, e3⟩ := drop_cons h h0
  refine Ev.suc.trans ?_
  simp (disch := omega) only [Z75.l3, Z75.l3.b, if_pos, decide_eq_true_eq, Ev.s1 Kx, grd_dec2, e2, wrap64]
  rw [Z75_lp hl ys (x + 1) _ e3 (by omega) (by simpa using ho), Ev.s1 Kx, take_set (by omega) (by omega), List.append_assoc]
  rfl
theorem Z75_ev {l : List Int} (h : l.length <= 1048576) (R : Nat -> List Int -> Prop) :
  Ev (fun n => Z75.c n l (R n)) ↔ Ev (fun n => R n l) := by
 refine Ev.suc.trans ?_
 simp (disch := omega) only [Z75.c, Z75.w, grd_dec2, decide_true, Bool.and_true]
 rw [Z75_lp (by omega) l 0 _ rfl (by omega) (by simp), Ev.s1 R]
 simp
theorem Z66_ev {a0 : Int} {a1 : List Int} (h : a1.length <= 1048576) (R : Nat -> Int -> List Int -> Prop) :
  Ev (fun n => Z66.c n a0 a1 (R n)) ↔ Ev (fun n => R n a0 a1) := by
 refine Ev.suc.trans ?_
 simp (disch := omega) only [Z66.c, Z66.w, Z75_ev, Ev.s2 R]
theorem Z69_lp {l : List Int} (hl : l.length <= 1048576) : ∀ (ys : List Int) (x : Int) (o : List Int), l.drop x.toNat = ys -> 0 <= x -> o.length = l.length -> ∀ (Kx : Nat -> List Int -> Prop),
  (Ev (fun n => Z69.l3 n l x o (Kx n)) ↔ Ev (fun n => Kx n (o.take x.toNat ++ ys)))
 | [], x, o, h, h0, ho, Kx => by
  have := drop_nil h h0
  refine Ev.suc.trans ?_
  simp (disch := omega) only [Z69.l3, Z69.l3.b, if_neg, decide_eq_true_eq, Ev.s1 Kx]
  rw [List.take_of_length_le (by omega), List.append_nil]
 | y :: ys, x, o, h, h0, ho, Kx => by
  obtain ⟨e1, e2, e3⟩ := drop_cons h h0
  refine Ev.suc.trans ?_
  simp (disch := omega) only [Z69.l3, Z69.l3.b, if_pos, decide_eq_true_eq, Ev.s1 Kx, grd_dec2, e2, wrap64]
  rw [Z69_lp hl ys (x + 1) _ e3 (by omega) (by simpa using ho), Ev.s1 Kx, take_set (by omega) (by omega), List.append_assoc]
  rfl
theorem Z69_ev {l : List Int} (h : l.length <= 1048576) (R : Nat -> List Int -> Prop) :
  Ev (fun n => Z69.c n l (R n)) ↔ Ev (fun n => R n l) := by
 refine Ev.suc.trans ?_
 simp (disch := omega) only [Z69.c, Z69.w, grd_dec2, decide_true, Bool.and_true]
 rw [Z69_lp (by omega) l 0 _ rfl (by omega) (by simp), Ev.s1 R]
 simp
theorem Z72_ev {a0 : Int} {a1 : Int} {a2 : Int} {a3 : Int} {a4 : Int} {a5 : List Int} {a6 : List Int} (h : a5.length + a6.length <= 1048576) (R : Nat -> Int -> Int -> Int -> Int -> Int -> List Int -> List Int -> Prop) :
  Ev (fun n => Z72.c n a0 a1 a2 a3 a4 a5 a6 (R n)) ↔ Ev (fun n => R n a0 a1 a2 a3 a4 a5 a6) := by
 refine Ev.suc.trans ?_
 simp (disch := omega) only [Z72.c, Z72.w, Z66_ev, Z69_ev, Ev.s7 R]
theorem Z73_lp {l : List tTNode} (hl : l.length <= 1048576) : ∀ (ys : List tTNode) (x : Int) (o : List tTNode), l.drop x.toNat = ys -> 0 <= x -> o.length = l.length -> (∀ y ∈ ys, y.2.2.2.2.2.1.length + y.2.2.2.2.2.2.length <= 1048576) -> ∀ (Kx : Nat -> List tTNode -> Prop),
  (Ev (fun n => Z73.l3 n l x o (Kx n)) ↔ Ev (fun n => Kx n (o.take x.toNat ++ ys)))
 | [], x, o, h, h0, ho, hy, Kx => by
  have := drop_nil h h0
  refine Ev.suc.trans ?_
  simp (disch := omega) only [Z73.l3, Z73.l3.b, if_neg, decide_eq_true_eq, Ev.s1 Kx]
  rw [List.take_of_length_le (by omega), List.append_nil]
 | y :: ys, x, o, h, h0, ho, hy, Kx => by
  obtain ⟨e1, e2, e3⟩ := drop_cons h h0
  have hy0 := hy y List.mem_cons_self
  refine Ev.suc.trans ?_
  simp (disch := omega) only [Z73.l3, Z73.l3.b, if_pos, decide_eq_true_eq, Ev.s1 Kx, grd_dec2, e2, wrap64, Z72_ev]
  rw [Z73_lp hl ys (x + 1) _ e3 (by omega) (by simpa using ho) (fun y hy' => hy y (List.mem_cons_of_mem _ hy')), Ev.s1 Kx, take_set (by omega) (by omega), List.append_assoc]
  rfl
theorem Z73_ev {l : List tTNode} (h : (l.length + sTNodeS l) <= 1048576) (R : Nat -> List tTNode -> Prop) :
  Ev (fun n => Z73.c n l (R n)) ↔ Ev (fun n => R n l) := by
 refine Ev.suc.trans ?_
 simp (disch := omega) only [Z73.c, Z73.w, grd_dec2, decide_true, Bool.and_true]
 rw [Z73_lp (by omega) l 0 _ rfl (by omega) (by simp) (fun y hy => by have := sTNodeS_mem hy; omega), Ev.s1 R]
 simp
theorem Z74_ev {a0 : List (Int × Int × Int × Int × Int × List (Int) × List (Int))} (h : (a0.length + sTNodeS a0) <= 1048576) (R : Nat -> List (Int × Int × Int × Int × Int × List (Int) × List (Int)) -> Prop) :
  Ev (fun n => Z74.c n a0 (R n)) ↔ Ev (fun n => R n a0) := by
 refine Ev.suc.trans ?_
 simp (disch := omega) only [Z74.c, Z74.w, Z73_ev, Ev.s1 R]
theorem Z70_ev {a0 : Int} {a1 : Bool} {a2 : List (Int × Int × Int × Int × Int × List (Int) × List (Int))} {a3 : List (Int × Int × Int × Int × Int × List (Int) × List (Int))} (h : ((a2.length + sTNodeS a2)) + ((a3.length + sTNodeS a3)) <= 1048576) (R : Nat -> Int -> Bool -> List (Int × Int × Int × Int × Int × List (Int) × List (Int)) -> List (Int × Int × Int × Int × Int × List (Int) × List (Int)) -> Prop) :
  Ev (fun n => Z70.c n a0 a1 a2 a3 (R n)) ↔ Ev (fun n => R n a0 a1 a2 a3) := by
 refine Ev.suc.trans ?_
 simp (disch := omega) only [Z70.c, Z70.w, Z74_ev, Ev.s4 R]
theorem Z71_lp {l : List tLiteral} (hl : l.length <= 1048576) : ∀ (ys : List tLiteral) (x : Int) (o : List tLiteral), l.drop x.toNat = ys -> 0 <= x -> o.length = l.length -> (∀ y ∈ ys, ((y.2.2.1.length + sTNodeS y.2.2.1)) + ((y.2.2.2.length + sTNodeS y.2.2.2)) <= 1048576) -> ∀ (Kx : Nat -> List tLiteral -> Prop),
  (Ev (fun n => Z71.l3 n l x o (Kx n)) ↔ Ev (fun n => Kx n (o.take x.toNat ++ ys)))
 | [], x, o, h, h0, ho, hy, Kx => by
  have := drop_nil h h0
  refine Ev.suc.trans ?_
  simp (disch := omega) only [Z71.l3, Z71.l3.b, if_neg, decide_eq_true_eq, Ev.s1 Kx]
  rw [List.take_of_length_le (by omega), List.append_nil]
 | y :: ys, x, o, h, h0, ho, hy, Kx => by
  obtain ⟨e1, e2, e3⟩ := drop_cons h h0
  have hy0 := hy y List.mem_cons_self
  refine Ev.suc.trans ?_
  simp (disch := omega) only [Z71.l3, Z71.l3.b, if_pos, decide_eq_true_eq, Ev.s1 Kx, grd_dec2, e2, wrap64, Z70_ev]
  rw [Z71_lp hl ys (x + 1) _ e3 (by omega) (by simpa using ho) (fun y hy' => hy y (List.mem_cons_of_mem _ hy')), Ev.s1 Kx, take_set (by omega) (by omega), List.append_assoc]
  rfl
theorem Z71_ev {l : List tLiteral} (h : (l.length + sLiteralS l) <= 1048576) (R : Nat -> List tLiteral -> Prop) :
  Ev (fun n => Z71.c n l (R n)) ↔ Ev (fun n => R n l) := by
 refine Ev.suc.trans ?_
 simp (disch := omega) only [Z71.c, Z71.w, grd_dec2, decide_true, Bool.and_true]
 rw [Z71_lp (by omega) l 0 _ rfl (by omega) (by simp) (fun y hy => by have := sLiteralS_mem hy; omega), Ev.s1 R]
 simp
theorem Z39_lp {l l' : List Int} (hl : l.length <= 1099511627776) (hll : l.length = l'.length) : ∀ (ys ys' : List Int) (x : Int), l.drop x.toNat = ys -> l'.drop x.toNat = ys' -> 0 <= x -> ∀ (Kx : Nat -> Prop) (Kr : Nat -> Bool -> Prop),
  (Ev (fun n => Z39.l4 n l l' x (Kx n) (Kr n)) ↔ if ys = ys' then Ev Kx else Ev (fun n => Kr n false))
 | [], [], x, h, h', h0, Kx, Kr => by
  have := drop_nil h h0
  refine Ev.suc.trans ?_
  simp (disch := omega) only [Z39.l4, Z39.l4.b, if_neg, decide_eq_true_eq, Ev.s0 Kx, if_true]
 | [], y' :: ys', x, h, h', h0, Kx, Kr => by
  have := drop_nil h h0; have := (drop_cons h' h0).1; omega
 | y :: ys, [], x, h, h', h0, Kx, Kr => by
  have := drop_nil h' h0; have := (drop_cons h h0).1; omega
 | y :: ys, y' :: ys', x, h, h', h0, Kx, Kr => by
  obtain ⟨e1, e2, e3⟩ := drop_cons h h0
  obtain ⟨_, f2, f3⟩ := drop_cons h' h0
  refine Ev.suc.trans ?_
  simp (disch := first | assumption | exact hy0.1 | exact hy0.2 | exact hy0.2.1 | exact hy0.2.2 | exact hy0.2.2.1 | exact hy0.2.2.2 | omega) only [Z39.l4, Z39.l4.b, if_pos, decide_eq_true_eq, Ev.s0 Kx, Ev.s1 Kr, grd_dec2, e2, f2, wrap64, Ev.iteI, Bool.not_eq_true', decide_eq_false_iff_not]
  rw [Z39_lp hl hll ys ys' (x + 1) e3 f3 (by omega), Ev.s0 Kx, Ev.s1 Kr]
  simp only [List.cons.injEq, Prod.ext_iff]
  (repeat' split) <;> first | rfl | (exfalso; simp_all; done)
theorem Z39_ev {l l' : List Int} (hl : l.length <= 1099511627776) (R : Nat -> Bool -> Prop) :
  Ev (fun n => Z39.c n l l' (R n)) ↔ Ev (fun n => R n (decide (l = l'))) := by
 refine Ev.suc.trans ?_
 simp (disch := omega) only [Z39.c, Z39.w, Ev.iteI, Bool.not_eq_true', decide_eq_false_iff_not, Ev.s1 R]
 split
 ·rw [decide_eq_false]; intro e; subst e; omega
 ·rw [Z39_lp hl (by omega) l l' 0 rfl rfl (by omega), Ev.s1 R, Ev.s1 R]
  split
  ·rw [decide_eq_true ‹_›]
  ·rw [decide_eq_false ‹_›]
theorem Z37_ev {a0 b0 : List UInt8} {a1 b1 : Int} (R : Nat -> Bool -> Prop) :
  Ev (fun n => Z37.c n a0 a1 b0 b1 (R n)) ↔ Ev (fun n => R n (decide (a0 = b0 /\ a1 = b1))) := by
 refine Ev.suc.trans ?_
 simp (disch := first | assumption | omega) only [Z37.c, Z37.w, Ev.iteI, Bool.not_eq_true', decide_eq_false_iff_not, beq_eq_false_iff_ne, ne_eq, Ev.s1 R]
 (repeat' split) <;> first | (rw [decide_eq_false]; simp_all; done) | (rw [decide_eq_true]; simp_all; done)
theorem Z38_lp {l l' : List tDecl} (hl : l.length <= 1099511627776) (hll : l.length = l'.length) : ∀ (ys ys' : List tDecl) (x : Int), l.drop x.toNat = ys -> l'.drop x.toNat = ys' -> 0 <= x -> ∀ (Kx : Nat -> Prop) (Kr : Nat -> Bool -> Prop),
  (Ev (fun n => Z38.l4 n l l' x (Kx n) (Kr n)) ↔ if ys = ys' then Ev Kx else Ev (fun n => Kr n false))
 | [], [], x, h, h', h0, Kx, Kr => by
  have := drop_nil h h0
  refine Ev.suc.trans ?_
  simp (disch := omega) only [Z38.l4, Z38.l4.b, if_neg, decide_eq_true_eq, Ev.s0 Kx, if_true]
 | [], y' :: ys', x, h, h', h0, Kx, Kr => by
  have := drop_nil h h0; have := (drop_cons h' h0).1; omega
 | y :: ys, [], x, h, h', h0, Kx, Kr => by
  have := drop_nil h' h0; have := (drop_cons h h0).1; omega
 | y :: ys, y' :: ys', x, h, h', h0, Kx, Kr => by
  obtain ⟨e1, e2, e3⟩ := drop_cons h h0
  obtain ⟨_, f2, f3⟩ := drop_cons h' h0
  refine Ev.suc.trans ?_
  simp (disch := first | assumption | exact hy0.1 | exact hy0.2 | exact hy0.2.1 | exact hy0.2.2 | exact hy0.2.2.1 | exact hy0.2.2.2 | omega) only [Z38.l4, Z38.l4.b, if_pos, decide_eq_true_eq, Ev.s0 Kx, Ev.s1 Kr, grd_dec2, e2, f2, wrap64, Z37_ev, Ev.iteI, Bool.not_eq_true', decide_eq_false_iff_not]
  rw [Z38_lp hl hll ys ys' (x + 1) e3 f3 (by omega), Ev.s0 Kx, Ev.s1 Kr]
  simp only [List.cons.injEq, Prod.ext_iff]
  (repeat' split) <;> first | rfl | (exfalso; simp_all; done)
theorem Z38_ev {l l' : List tDecl} (hl : l.length <= 1099511627776) (R : Nat -> Bool -> Prop) :
  Ev (fun n => Z38.c n l l' (R n)) ↔ Ev (fun n => R n (decide (l = l'))) := by
 refine Ev.suc.trans ?_
 simp (disch := omega) only [Z38.c, Z38.w, Ev.iteI, Bool.not_eq_true', decide_eq_false_iff_not, Ev.s1 R]
 split
 ·rw [decide_eq_false]; intro e; subst e; omega
 ·rw [Z38_lp hl (by omega) l l' 0 rfl rfl (by omega), Ev.s1 R, Ev.s1 R]
  split
  ·rw [decide_eq_true ‹_›]
  ·rw [decide_eq_false ‹_›]
theorem Z45_lp {l l' : List Int} (hl : l.length <= 1099511627776) (hll : l.length = l'.length) : ∀ (ys ys' : List Int) (x : Int), l.drop x.toNat = ys -> l'.drop x.toNat = ys' -> 0 <= x -> ∀ (Kx : Nat -> Prop) (Kr : Nat -> Bool -> Prop),
  (Ev (fun n => Z45.l4 n l l' x (Kx n) (Kr n)) ↔ if ys = ys' then Ev Kx else Ev (fun n => Kr n false))
 | [], [], x, h, h', h0, Kx, Kr => by
  have := drop_nil h h0
  refine Ev.suc.trans ?_
  simp (disch := omega) only [Z45.l4, Z45.l4.b, if_neg, decide_eq_true_eq, Ev.s0 Kx, if_true]
 | [], y' :: ys', x, h, h', h0, Kx, Kr => by
  have := drop_nil h h0; have := (drop_cons h' h0).1; omega
 | y :: ys, [], x, h, h', h0, Kx, Kr => by
  have := drop_nil h' h0; have := (drop_cons h h0).1; omega
 | y :: ys, y' :: ys', x, h, h', h0, Kx, Kr => by
  obtain ⟨e1, e2, e3⟩ := drop_cons h h0
  obtain ⟨_, f2, f3⟩ := drop_cons h' h0
  refine Ev.suc.trans ?_
  simp (disch := first | assumption | exact hy0.1 | exact hy0.2 | exact hy0.2.1 | exact hy0.2.2 | exact hy0.2.2.1 | exact hy0.2.2.2 | omega) only [Z45.l4, Z45.l4.b, if_pos, decide_eq_true_eq, Ev.s0 Kx, Ev.s1 Kr, grd_dec2, e2, f2, wrap64, Ev.iteI, Bool.not_eq_true', decide_eq_false_iff_not]
  rw [Z45_lp hl hll ys ys' (x + 1) e3 f3 (by omega), Ev.s0 Kx, Ev.s1 Kr]
  simp only [List.cons.injEq, Prod.ext_iff]
  (repeat' split) <;> first | rfl | (exfalso; simp_all; done)
theorem Z45_ev {l l' : List Int} (hl : l.length <= 1099511627776) (R : Nat -> Bool -> Prop) :
  Ev (fun n => Z45.c n l l' (R n)) ↔ Ev (fun n => R n (decide (l = l'))) := by
 refine Ev.suc.trans ?_
 simp (disch := omega) only [Z45.c, Z45.w, Ev.iteI, Bool.not_eq_true', decide_eq_false_iff_not, Ev.s1 R]
 split
 ·rw [decide_eq_false]; intro e; subst e; omega
 ·rw [Z45_lp hl (by omega) l l' 0 rfl rfl (by omega), Ev.s1 R, Ev.s1 R]
  split
  ·rw [decide_eq_true ‹_›]
  ·rw [decide_eq_false ‹_›]
theorem Z35_ev {a0 b0 : Int} {a1 b1 : List Int} (h0 : a1.length <= 1099511627776) (R : Nat -> Bool -> Prop) :
  Ev (fun n => Z35.c n a0 a1 b0 b1 (R n)) ↔ Ev (fun n => R n (decide (a0 = b0 /\ a1 = b1))) := by
 refine Ev.suc.trans ?_
 simp (disch := first | assumption | omega) only [Z35.c, Z35.w, Z45_ev, Ev.iteI, Bool.not_eq_true', decide_eq_false_iff_not, beq_eq_false_iff_ne, ne_eq, Ev.s1 R]
 (repeat' split) <;> first | (rw [decide_eq_false]; simp_all; done) | (rw [decide_eq_true]; simp_all; done)
theorem Z42_ev {a0 b0 : Int} {a1 b1 : Int} {a2 b2 : Int} {a3 b3 : Int} {a4 b4 : Int} {a5 b5 : List Int} {a6 b6 : List Int} (h0 : a5.length <= 1099511627776) (h1 : a6.length <= 1099511627776) (R : Nat -> Bool -> Prop) :
  Ev (fun n => Z42.c n a0 a1 a2 a3 a4 a5 a6 b0 b1 b2 b3 b4 b5 b6 (R n)) ↔ Ev (fun n => R n (decide (a0 = b0 /\ a1 = b1 /\ a2 = b2 /\ a3 = b3 /\ a4 = b4 /\ a5 = b5 /\ a6 = b6))) := by
 refine Ev.suc.trans ?_
 simp (disch := first | assumption | omega) only [Z42.c, Z42.w, Z35_ev, Z39_ev, Ev.iteI, Bool.not_eq_true', decide_eq_false_iff_not, beq_eq_false_iff_ne, ne_eq, Ev.s1 R]
 (repeat' split) <;> first | (rw [decide_eq_false]; simp_all; done) | (rw [decide_eq_true]; simp_all; done)
theorem Z43_lp {l l' : List tTNode} (hl : l.length <= 1099511627776) (hll : l.length = l'.length) : ∀ (ys ys' : List tTNode) (x : Int), l.drop x.toNat = ys -> l'.drop x.toNat = ys' -> 0 <= x -> (∀ y ∈ ys, y.2.2.2.2.2.1.length <= 1099511627776 /\ y.2.2.2.2.2.2.length <= 1099511627776) -> ∀ (Kx : Nat -> Prop) (Kr : Nat -> Bool -> Prop),
  (Ev (fun n => Z43.l4 n l l' x (Kx n) (Kr n)) ↔ if ys = ys' then Ev Kx else Ev (fun n => Kr n false))
 | [], [], x, h, h', h0, hy, Kx, Kr => by
  have := drop_nil h h0
  refine Ev.suc.trans ?_
  simp (disch := omega) only [Z43.l4, Z43.l4.b, if_neg, decide_eq_true_eq, Ev.s0 Kx, if_true]
 | [], y' :: ys', x, h, h', h0, hy, Kx, Kr => by
  have := drop_nil h h0; have := (drop_cons h' h0).1; omega
 | y :: ys, [], x, h, h', h0, hy, Kx, Kr => by
  have := drop_nil h' h0; have := (drop_cons h h0).1; omega
 | y :: ys, y' :: ys', x, h, h', h0, hy, Kx, Kr => by
  obtain ⟨e1, e2, e3⟩ := drop_cons h h0
  obtain ⟨_, f2, f3⟩ := drop_cons h' h0
  have hy0 := hy y List.mem_cons_self
  refine Ev.suc.trans ?_
  simp (disch := first | assumption | exact hy0.1 | exact hy0.2 | exact hy0.2.1 | exact hy0.2.2 | exact hy0.2.2.1 | exact hy0.2.2.2 | omega) only [Z43.l4, Z43.l4.b, if_pos, decide_eq_true_eq, Ev.s0 Kx, Ev.s1 Kr, grd_dec2, e2, f2, wrap64, Z42_ev, Ev.iteI, Bool.not_eq_true', decide_eq_false_iff_not]
  rw [Z43_lp hl hll ys ys' (x + 1) e3 f3 (by omega) (fun y hy' => hy y (List.mem_cons_of_mem _ hy')), Ev.s0 Kx, Ev.s1 Kr]
  simp only [List.cons.injEq, Prod.ext_iff]
  (repeat' split) <;> first | rfl | (exfalso; simp_all; done)
theorem Z43_ev {l l' : List tTNode} (hl : l.length <= 1099511627776) (hy : ∀ y ∈ l, y.2.2.2.2.2.1.length <= 1099511627776 /\ y.2.2.2.2.2.2.length <= 1099511627776) (R : Nat -> Bool -> Prop) :
  Ev (fun n => Z43.c n l l' (R n)) ↔ Ev (fun n => R n (decide (l = l'))) := by
 refine Ev.suc.trans ?_
 simp (disch := omega) only [Z43.c, Z43.w, Ev.iteI, Bool.not_eq_true', decide_eq_false_iff_not, Ev.s1 R]
 split
 ·rw [decide_eq_false]; intro e; subst e; omega
 ·rw [Z43_lp hl (by omega) l l' 0 rfl rfl (by omega) hy, Ev.s1 R, Ev.s1 R]
  split
  ·rw [decide_eq_true ‹_›]
  ·rw [decide_eq_false ‹_›]
theorem Z44_ev {a0 b0 : List (Int × Int × Int × Int × Int × List (Int) × List (Int))} (h0 : a0.length <= 1099511627776) (h1 : (∀ y : tTNode, y ∈ a0 -> y.2.2.2.2.2.1.length <= 1099511627776 /\ y.2.2.2.2.2.2.length <= 1099511627776)) (R : Nat -> Bool -> Prop) :
  Ev (fun n => Z44.c n a0 b0 (R n)) ↔ Ev (fun n => R n (decide (a0 = b0))) := by
 refine Ev.suc.trans ?_
 simp (disch := first | assumption | omega) only [Z44.c, Z44.w, Z43_ev, Ev.iteI, Bool.not_eq_true', decide_eq_false_iff_not, beq_eq_false_iff_ne, ne_eq, Ev.s1 R]
 (repeat' split) <;> first | (rw [decide_eq_false]; simp_all; done) | (rw [decide_eq_true]; simp_all; done)
theorem Z40_ev {a0 b0 : Int} {a1 b1 : Bool} {a2 b2 : List (Int × Int × Int × Int × Int × List (Int) × List (Int))} {a3 b3 : List (Int × Int × Int × Int × Int × List (Int) × List (Int))} (h0 : a2.length <= 1099511627776) (h1 : (∀ y : tTNode, y ∈ a2 -> y.2.2.2.2.2.1.length <= 1099511627776 /\ y.2.2.2.2.2.2.length <= 1099511627776)) (h2 : a3.length <= 1099511627776) (h3 : (∀ y : tTNode, y ∈ a3 -> y.2.2.2.2.2.1.length <= 1099511627776 /\ y.2.2.2.2.2.2.length <= 1099511627776)) (R : Nat -> Bool -> Prop) :
  Ev (fun n => Z40.c n a0 a1 a2 a3 b0 b1 b2 b3 (R n)) ↔ Ev (fun n => R n (decide (a0 = b0 /\ a1 = b1 /\ a2 = b2 /\ a3 = b3))) := by
 refine Ev.suc.trans ?_
 simp (disch := first | assumption | omega) only [Z40.c, Z40.w, Z44_ev, Ev.iteI, Bool.not_eq_true', decide_eq_false_iff_not, beq_eq_false_iff_ne, ne_eq, Ev.s1 R]
 (repeat' split) <;> first | (rw [decide_eq_false]; simp_all; done) | (rw [decide_eq_true]; simp_all; done)
theorem Z41_lp {l l' : List tLiteral} (hl : l.length <= 1099511627776) (hll : l.length = l'.length) : ∀ (ys ys' : List tLiteral) (x : Int), l.drop x.toNat = ys -> l'.drop x.toNat = ys' -> 0 <= x -> (∀ y ∈ ys, y.2.2.1.length <= 1099511627776 /\ (∀ z : tTNode, z ∈ y.2.2.1 -> z.2.2.2.2.2.1.length <= 1099511627776 /\ z.2.2.2.2.2.2.length <= 1099511627776) /\ y.2.2.2.length <= 1099511627776 /\ (∀ z : tTNode, z ∈ y.2.2.2 -> z.2.2.2.2.2.1.length <= 1099511627776 /\ z.2.2.2.2.2.2.length <= 1099511627776)) -> ∀ (Kx : Nat -> Prop) (Kr : Nat -> Bool -> Prop),
  (Ev (fun n => Z41.l4 n l l' x (Kx n) (Kr n)) ↔ if ys = ys' then Ev Kx else Ev (fun n => Kr n false))
 | [], [], x, h, h', h0, hy, Kx, Kr => by
  have := drop_nil h h0
  refine Ev.suc.trans ?_
  simp (disch := omega) only [Z41.l4, Z41.l4.b, if_neg, decide_eq_true_eq, Ev.s0 Kx, if_true]
 | [], y' :: ys', x, h, h', h0, hy, Kx, Kr => by
  have := drop_nil h h0; have := (drop_cons h' h0).1; omega
 | y :: ys, [], x, h, h', h0, hy, Kx, Kr => by
  have := drop_nil h' h0; have := (drop_cons h h0).1; omega
 | y :: ys, y' :: ys', x, h, h', h0, hy, Kx, Kr => by
  obtain ⟨e1, e2, e3⟩ := drop_cons h h0
  obtain ⟨_, f2, f3⟩ := drop_cons h' h0
  have hy0 := hy y List.mem_cons_self
  refine Ev.suc.trans ?_
  simp (disch := first | assumption | exact hy0.1 | exact hy0.2 | exact hy0.2.1 | exact hy0.2.2 | exact hy0.2.2.1 | exact hy0.2.2.2 | omega) only [Z41.l4, Z41.l4.b, if_pos, decide_eq_true_eq, Ev.s0 Kx, Ev.s1 Kr, grd_dec2, e2, f2, wrap64, Z40_ev, Ev.iteI, Bool.not_eq_true', decide_eq_false_iff_not]
  rw [Z41_lp hl hll ys ys' (x + 1) e3 f3 (by omega) (fun y hy' => hy y (List.mem_cons_of_mem _ hy')), Ev.s0 Kx, Ev.s1 Kr]
  simp only [List.cons.injEq, Prod.ext_iff]
  (repeat' split) <;> first | rfl | (exfalso; simp_all; done)
theorem Z41_ev {l l' : List tLiteral} (hl : l.length <= 1099511627776) (hy : ∀ y ∈ l, y.2.2.1.length <= 1099511627776 /\ (∀ z : tTNode, z ∈ y.2.2.1 -> z.2.2.2.2.2.1.length <= 1099511627776 /\ z.2.2.2.2.2.2.length <= 1099511627776) /\ y.2.2.2.length <= 1099511627776 /\ (∀ z : tTNode, z ∈ y.2.2.2 -> z.2.2.2.2.2.1.length <= 1099511627776 /\ z.2.2.2.2.2.2.length <= 1099511627776)) (R : Nat -> Bool -> Prop) :
  Ev (fun n => Z41.c n l l' (R n)) ↔ Ev (fun n => R n (decide (l = l'))) := by
 refine Ev.suc.trans ?_
 simp (disch := omega) only [Z41.c, Z41.w, Ev.iteI, Bool.not_eq_true', decide_eq_false_iff_not, Ev.s1 R]
 split
 ·rw [decide_eq_false]; intro e; subst e; omega
 ·rw [Z41_lp hl (by omega) l l' 0 rfl rfl (by omega) hy, Ev.s1 R, Ev.s1 R]
  split
  ·rw [decide_eq_true ‹_›]
  ·rw [decide_eq_false ‹_›]
theorem eqLiteralS_of {l : List tLiteral} (h : (l.length + sLiteralS l) <= 1099511627776) : ∀ y : tLiteral, y ∈ l -> y.2.2.1.length <= 1099511627776 /\ (∀ z : tTNode, z ∈ y.2.2.1 -> z.2.2.2.2.2.1.length <= 1099511627776 /\ z.2.2.2.2.2.2.length <= 1099511627776) /\ y.2.2.2.length <= 1099511627776 /\ (∀ z : tTNode, z ∈ y.2.2.2 -> z.2.2.2.2.2.1.length <= 1099511627776 /\ z.2.2.2.2.2.2.length <= 1099511627776) := by
 intro y hy
 have := sLiteralS_mem hy
 exact ⟨(by omega), (fun z hz => by have := sTNodeS_mem hz; exact ⟨(by omega), (by omega)⟩), (by omega), (fun z hz => by have := sTNodeS_mem hz; exact ⟨(by omega), (by omega)⟩)⟩
theorem Z36_lp {l l' : List tBits} (hl : l.length <= 1099511627776) (hll : l.length = l'.length) : ∀ (ys ys' : List tBits) (x : Int), l.drop x.toNat = ys -> l'.drop x.toNat = ys' -> 0 <= x -> (∀ y ∈ ys, y.2.length <= 1099511627776) -> ∀ (Kx : Nat -> Prop) (Kr : Nat -> Bool -> Prop),
  (Ev (fun n => Z36.l4 n l l' x (Kx n) (Kr n)) ↔ if ys = ys' then Ev Kx else Ev (fun n => Kr n false))
 | [], [], x, h, h', h0, hy, Kx, Kr => by
  have := drop_nil h h0
  refine Ev.suc.trans ?_
  simp (disch := omega) only [Z36.l4, Z36.l4.b, if_neg, decide_eq_true_eq, Ev.s0 Kx, if_true]
 | [], y' :: ys', x, h, h', h0, hy, Kx, Kr => by
  have := drop_nil h h0; have := (drop_cons h' h0).1; omega
 | y :: ys, [], x, h, h', h0, hy, Kx, Kr => by
  have := drop_nil h' h0; have := (drop_cons h h0).1; omega
 | y :: ys, y' :: ys', x, h, h', h0, hy, Kx, Kr => by
  obtain ⟨e1, e2, e3⟩ := drop_cons h h0
  obtain ⟨_, f2, f3⟩ := drop_cons h' h0
  have hy0 := hy y List.mem_cons_self
  refine Ev.suc.trans ?_
  simp (disch := first | assumption | exact hy0.1 | exact hy0.2 | exact hy0.2.1 | exact hy0.2.2 | exact hy0.2.2.1 | exact hy0.2.2.2 | omega) only [Z36.l4, Z36.l4.b, if_pos, decide_eq_true_eq, Ev.s0 Kx, Ev.s1 Kr, grd_dec2, e2, f2, wrap64, Z35_ev, Ev.iteI, Bool.not_eq_true', decide_eq_false_iff_not]
  rw [Z36_lp hl hll ys ys' (x + 1) e3 f3 (by omega) (fun y hy' => hy y (List.mem_cons_of_mem _ hy')), Ev.s0 Kx, Ev.s1 Kr]
  simp only [List.cons.injEq, Prod.ext_iff]
  (repeat' split) <;> first | rfl | (exfalso; simp_all; done)
theorem Z36_ev {l l' : List tBits} (hl : l.length <= 1099511627776) (hy : ∀ y ∈ l, y.2.length <= 1099511627776) (R : Nat -> Bool -> Prop) :
  Ev (fun n => Z36.c n l l' (R n)) ↔ Ev (fun n => R n (decide (l = l'))) := by
 refine Ev.suc.trans ?_
 simp (disch := omega) only [Z36.c, Z36.w, Ev.iteI, Bool.not_eq_true', decide_eq_false_iff_not, Ev.s1 R]
 split
 ·rw [decide_eq_false]; intro e; subst e; omega
 ·rw [Z36_lp hl (by omega) l l' 0 rfl rfl (by omega) hy, Ev.s1 R, Ev.s1 R]
  split
  ·rw [decide_eq_true ‹_›]
  ·rw [decide_eq_false ‹_›]
def mDeclS : List tDecl -> Int -> List tDecl
 | [], _ => []
 | y :: r, k => (mText k, k + 1) :: mDeclS r (k + 1 + 1)
def cDeclS : List tDecl -> Nat
 | [] => 0
 | y :: r => (2) + cDeclS r
theorem Z49_lp : ∀ (ys l : List tDecl) (k x : Int), l.drop x.toNat = ys -> 0 <= x -> l.length <= 1099511627776 -> 0 < k -> k + (cDeclS ys : Int) <= 4611686018427387904 -> ∀ (Kx : Nat -> Int -> List tDecl -> Prop),
  (Ev (fun n => Z49.l2 n k x l (Kx n)) ↔ Ev (fun n => Kx n (k + (cDeclS ys : Int)) (l.take x.toNat ++ mDeclS ys k)))
 | [], l, k, x, h, h0, hl, hk, hb, Kx => by
  have := drop_nil h h0
  refine Ev.suc.trans ?_
  simp (disch := omega) only [Z49.l2, Z49.l2.b, if_neg, decide_eq_true_eq, Ev.s2 Kx]
  rw [List.take_of_length_le (by omega), mDeclS, List.append_nil]
  refine ev_arg2 ?_; simp [cDeclS]
 | y :: ys, l, k, x, h, h0, hl, hk, hb, Kx => by
  obtain ⟨e1, e2, e3⟩ := drop_cons h h0
  simp only [List.length_cons, cDeclS] at hb
  refine Ev.suc.trans ?_
  simp (disch := first | assumption | exact hy0.1 | exact hy0.2 | exact hy0.2.1 | exact hy0.2.2 | exact hy0.2.2.1 | exact hy0.2.2.2 | omega) only [Z49.l2, Z49.l2.b, if_pos, decide_eq_true_eq, Ev.s2 Kx, grd_dec2, wrap64, wrapU, rd_set, List.length_set, List.set_set, e2, markText_ev]
  rw [Z49_lp ys _ _ (x + 1) (drop_set e3 (by omega)) (by omega) (by simpa using hl) (by omega) (by omega), Ev.s2 Kx, take_set (by omega) (by omega), List.append_assoc, mDeclS]
  simp only [List.length_cons, cDeclS, List.singleton_append]
  exact ev_arg3 (by omega) (by congr 2 <;> first | rfl | omega | (congr 1; omega) | skip)
theorem Z49_ev {l : List tDecl} {k : Int} (hl : l.length <= 1099511627776) (hk : 0 < k) (hb : k + (cDeclS l : Int) <= 4611686018427387904) (R : Nat -> Int -> List tDecl -> Prop) :
  Ev (fun n => Z49.c n l k (R n)) ↔ Ev (fun n => R n (k + (cDeclS l : Int)) (mDeclS l k)) := by
 refine Ev.suc.trans ?_
 simp only [Z49.c, Z49.w]
 rw [Z49_lp l l k 0 rfl (by omega) hl hk hb, Ev.s2 R]
 rfl
theorem cDeclS_le : ∀ {l : List tDecl}, cDeclS l <= 8 * (l.length + sDeclS l)
 | [] => by simp [cDeclS]
 | y :: r => by
  have := cDeclS_le (l := r)
  simp only [cDeclS, sDeclS, List.length_cons]; omega
def mUint64S : List Int -> Int -> List Int
 | [], _ => []
 | y :: r, k => (k) :: mUint64S r (k + 1)
theorem Z54_lp : ∀ (ys l : List Int) (k x : Int), l.drop x.toNat = ys -> 0 <= x -> l.length <= 1099511627776 -> 0 < k -> k + (ys.length : Int) <= 4611686018427387904 -> ∀ (Kx : Nat -> Int -> List Int -> Prop),
  (Ev (fun n => Z54.l2 n k x l (Kx n)) ↔ Ev (fun n => Kx n (k + (ys.length : Int)) (l.take x.toNat ++ mUint64S ys k)))
 | [], l, k, x, h, h0, hl, hk, hb, Kx => by
  have := drop_nil h h0
  refine Ev.suc.trans ?_
  simp (disch := omega) only [Z54.l2, Z54.l2.b, if_neg, decide_eq_true_eq, Ev.s2 Kx]
  rw [List.take_of_length_le (by omega), mUint64S, List.append_nil]
  refine ev_arg2 ?_; simp
 | y :: ys, l, k, x, h, h0, hl, hk, hb, Kx => by
  obtain ⟨e1, e2, e3⟩ := drop_cons h h0
  simp only [List.length_cons] at hb
  refine Ev.suc.trans ?_
  simp (disch := first | assumption | exact hy0.1 | exact hy0.2 | exact hy0.2.1 | exact hy0.2.2 | exact hy0.2.2.1 | exact hy0.2.2.2 | omega) only [Z54.l2, Z54.l2.b, if_pos, decide_eq_true_eq, Ev.s2 Kx, grd_dec2, wrap64, wrapU, rd_set, List.length_set, List.set_set, e2]
  rw [Z54_lp ys _ _ (x + 1) (drop_set e3 (by omega)) (by omega) (by simpa using hl) (by omega) (by omega), Ev.s2 Kx, take_set (by omega) (by omega), List.append_assoc, mUint64S]
  simp only [List.length_cons, List.singleton_append]
  exact ev_arg3 (by omega) (by congr 2 <;> first | rfl | omega | (congr 1; omega) | skip)
theorem Z54_ev {l : List Int} {k : Int} (hl : l.length <= 1099511627776) (hk : 0 < k) (hb : k + (l.length : Int) <= 4611686018427387904) (R : Nat -> Int -> List Int -> Prop) :
  Ev (fun n => Z54.c n l k (R n)) ↔ Ev (fun n => R n (k + (l.length : Int)) (mUint64S l k)) := by
 refine Ev.suc.trans ?_
 simp only [Z54.c, Z54.w]
 rw [Z54_lp l l k 0 rfl (by omega) hl hk hb, Ev.s2 R]
 rfl
theorem mUint64S_len : ∀ {l : List Int} {k : Int}, (mUint64S l k).length = l.length
 | [], _ => rfl
 | y :: l, k => by simp [mUint64S, mUint64S_len]
def mInt64S : List Int -> Int -> List Int
 | [], _ => []
 | y :: r, k => (k) :: mInt64S r (k + 1)
theorem Z50_lp : ∀ (ys l : List Int) (k x : Int), l.drop x.toNat = ys -> 0 <= x -> l.length <= 1099511627776 -> 0 < k -> k + (ys.length : Int) <= 4611686018427387904 -> ∀ (Kx : Nat -> Int -> List Int -> Prop),
  (Ev (fun n => Z50.l2 n k x l (Kx n)) ↔ Ev (fun n => Kx n (k + (ys.length : Int)) (l.take x.toNat ++ mInt64S ys k)))
 | [], l, k, x, h, h0, hl, hk, hb, Kx => by
  have := drop_nil h h0
  refine Ev.suc.trans ?_
  simp (disch := omega) only [Z50.l2, Z50.l2.b, if_neg, decide_eq_true_eq, Ev.s2 Kx]
  rw [List.take_of_length_le (by omega), mInt64S, List.append_nil]
  refine ev_arg2 ?_; simp
 | y :: ys, l, k, x, h, h0, hl, hk, hb, Kx => by
  obtain ⟨e1, e2, e3⟩ := drop_cons h h0
  simp only [List.length_cons] at hb
  refine Ev.suc.trans ?_
  simp (disch := first | assumption | exact hy0.1 | exact hy0.2 | exact hy0.2.1 | exact hy0.2.2 | exact hy0.2.2.1 | exact hy0.2.2.2 | omega) only [Z50.l2, Z50.l2.b, if_pos, decide_eq_true_eq, Ev.s2 Kx, grd_dec2, wrap64, wrapU, rd_set, List.length_set, List.set_set, e2]
  rw [Z50_lp ys _ _ (x + 1) (drop_set e3 (by omega)) (by omega) (by simpa using hl) (by omega) (by omega), Ev.s2 Kx, take_set (by omega) (by omega), List.append_assoc, mInt64S]
  simp only [List.length_cons, List.singleton_append]
  exact ev_arg3 (by omega) (by congr 2 <;> first | rfl | omega | (congr 1; omega) | skip)
theorem Z50_ev {l : List Int} {k : Int} (hl : l.length <= 1099511627776) (hk : 0 < k) (hb : k + (l.length : Int) <= 4611686018427387904) (R : Nat -> Int -> List Int -> Prop) :
  Ev (fun n => Z50.c n l k (R n)) ↔ Ev (fun n => R n (k + (l.length : Int)) (mInt64S l k)) := by
 refine Ev.suc.trans ?_
 simp only [Z50.c, Z50.w]
 rw [Z50_lp l l k 0 rfl (by omega) hl hk hb, Ev.s2 R]
 rfl
def mTNodeS : List tTNode -> Int -> List tTNode
 | [], _ => []
 | y :: r, k => (k, k + 1, k + 1 + 1, k + 1 + 1 + 1, k + 1 + 1 + 1 + 1, mUint64S y.2.2.2.2.2.1 (k + 1 + 1 + 1 + 1 + 1), mInt64S y.2.2.2.2.2.2 (k + 1 + 1 + 1 + 1 + 1 + ((y.2.2.2.2.2.1.length : Nat) : Int))) :: mTNodeS r (k + 1 + 1 + 1 + 1 + 1 + ((y.2.2.2.2.2.1.length : Nat) : Int) + ((y.2.2.2.2.2.2.length : Nat) : Int))
def cTNodeS : List tTNode -> Nat
 | [] => 0
 | y :: r => (5 + y.2.2.2.2.2.1.length + y.2.2.2.2.2.2.length) + cTNodeS r
theorem Z52_lp : ∀ (ys l : List tTNode) (k x : Int), l.drop x.toNat = ys -> 0 <= x -> l.length <= 1099511627776 -> 0 < k -> k + (cTNodeS ys : Int) <= 4611686018427387904 -> (∀ y ∈ ys, y.2.2.2.2.2.1.length <= 1099511627776 /\ y.2.2.2.2.2.2.length <= 1099511627776) -> ∀ (Kx : Nat -> Int -> List tTNode -> Prop),
  (Ev (fun n => Z52.l2 n k x l (Kx n)) ↔ Ev (fun n => Kx n (k + (cTNodeS ys : Int)) (l.take x.toNat ++ mTNodeS ys k)))
 | [], l, k, x, h, h0, hl, hk, hb, hy, Kx => by
  have := drop_nil h h0
  refine Ev.suc.trans ?_
  simp (disch := omega) only [Z52.l2, Z52.l2.b, if_neg, decide_eq_true_eq, Ev.s2 Kx]
  rw [List.take_of_length_le (by omega), mTNodeS, List.append_nil]
  refine ev_arg2 ?_; simp [cTNodeS]
 | y :: ys, l, k, x, h, h0, hl, hk, hb, hy, Kx => by
  obtain ⟨e1, e2, e3⟩ := drop_cons h h0
  have hy0 := hy y List.mem_cons_self
  simp only [List.length_cons, cTNodeS] at hb
  refine Ev.suc.trans ?_
  simp (disch := first | assumption | exact hy0.1 | exact hy0.2 | exact hy0.2.1 | exact hy0.2.2 | exact hy0.2.2.1 | exact hy0.2.2.2 | omega) only [Z52.l2, Z52.l2.b, if_pos, decide_eq_true_eq, Ev.s2 Kx, grd_dec2, wrap64, wrapU, rd_set, List.length_set, List.set_set, e2, Z50_ev, Z54_ev]
  rw [Z52_lp ys _ _ (x + 1) (drop_set e3 (by omega)) (by omega) (by simpa using hl) (by omega) (by omega) (fun y hy' => hy y (List.mem_cons_of_mem _ hy')), Ev.s2 Kx, take_set (by omega) (by omega), List.append_assoc, mTNodeS]
  simp only [List.length_cons, cTNodeS, List.singleton_append]
  exact ev_arg3 (by omega) (by congr 2 <;> first | rfl | omega | (congr 1; omega) | skip)
theorem Z52_ev {l : List tTNode} {k : Int} (hl : l.length <= 1099511627776) (hk : 0 < k) (hb : k + (cTNodeS l : Int) <= 4611686018427387904) (hy : ∀ y ∈ l, y.2.2.2.2.2.1.length <= 1099511627776 /\ y.2.2.2.2.2.2.length <= 1099511627776) (R : Nat -> Int -> List tTNode -> Prop) :
  Ev (fun n => Z52.c n l k (R n)) ↔ Ev (fun n => R n (k + (cTNodeS l : Int)) (mTNodeS l k)) := by
 refine Ev.suc.trans ?_
 simp only [Z52.c, Z52.w]
 rw [Z52_lp l l k 0 rfl (by omega) hl hk hb hy, Ev.s2 R]
 rfl
theorem cTNodeS_le : ∀ {l : List tTNode}, cTNodeS l <= 8 * (l.length + sTNodeS l)
 | [] => by simp [cTNodeS]
 | y :: r => by
  have := cTNodeS_le (l := r)
  simp only [cTNodeS, sTNodeS, List.length_cons]; omega
def mLiteralS : List tLiteral -> Int -> List tLiteral
 | [], _ => []
 | y :: r, k => (k, decide (Int.tmod (k + 1) 3 = 0), mTNodeS y.2.2.1 (k + 1 + 1), mTNodeS y.2.2.2 (k + 1 + 1 + ((cTNodeS y.2.2.1 : Nat) : Int))) :: mLiteralS r (k + 1 + 1 + ((cTNodeS y.2.2.1 : Nat) : Int) + ((cTNodeS y.2.2.2 : Nat) : Int))
def cLiteralS : List tLiteral -> Nat
 | [] => 0
 | y :: r => (2 + (cTNodeS y.2.2.1) + (cTNodeS y.2.2.2)) + cLiteralS r
theorem Z51_lp : ∀ (ys l : List tLiteral) (k x : Int), l.drop x.toNat = ys -> 0 <= x -> l.length <= 1099511627776 -> 0 < k -> k + (cLiteralS ys : Int) <= 4611686018427387904 -> (∀ y ∈ ys, y.2.2.1.length <= 1099511627776 /\ (∀ z : tTNode, z ∈ y.2.2.1 -> z.2.2.2.2.2.1.length <= 1099511627776 /\ z.2.2.2.2.2.2.length <= 1099511627776) /\ y.2.2.2.length <= 1099511627776 /\ (∀ z : tTNode, z ∈ y.2.2.2 -> z.2.2.2.2.2.1.length <= 1099511627776 /\ z.2.2.2.2.2.2.length <= 1099511627776)) -> ∀ (Kx : Nat -> Int -> List tLiteral -> Prop),
  (Ev (fun n => Z51.l2 n k x l (Kx n)) ↔ Ev (fun n => Kx n (k + (cLiteralS ys : Int)) (l.take x.toNat ++ mLiteralS ys k)))
 | [], l, k, x, h, h0, hl, hk, hb, hy, Kx => by
  have := drop_nil h h0
  refine Ev.suc.trans ?_
  simp (disch := omega) only [Z51.l2, Z51.l2.b, if_neg, decide_eq_true_eq, Ev.s2 Kx]
  rw [List.take_of_length_le (by omega), mLiteralS, List.append_nil]
  refine ev_arg2 ?_; simp [cLiteralS]
 | y :: ys, l, k, x, h, h0, hl, hk, hb, hy, Kx => by
  obtain ⟨e1, e2, e3⟩ := drop_cons h h0
  have hy0 := hy y List.mem_cons_self
  simp only [List.length_cons, cLiteralS] at hb
  refine Ev.suc.trans ?_
  simp (disch := first | assumption | exact hy0.1 | exact hy0.2 | exact hy0.2.1 | exact hy0.2.2 | exact hy0.2.2.1 | exact hy0.2.2.2 | omega) only [Z51.l2, Z51.l2.b, if_pos, decide_eq_true_eq, Ev.s2 Kx, grd_dec2, wrap64, wrapU, rd_set, List.length_set, List.set_set, e2, Z52_ev]
  rw [Z51_lp ys _ _ (x + 1) (drop_set e3 (by omega)) (by omega) (by simpa using hl) (by omega) (by omega) (fun y hy' => hy y (List.mem_cons_of_mem _ hy')), Ev.s2 Kx, take_set (by omega) (by omega), List.append_assoc, mLiteralS]
  simp only [List.length_cons, cLiteralS, List.singleton_append]
  exact ev_arg3 (by omega) (by congr 2 <;> first | rfl | omega | (congr 1; omega) | skip)
theorem Z51_ev {l : List tLiteral} {k : Int} (hl : l.length <= 1099511627776) (hk : 0 < k) (hb : k + (cLiteralS l : Int) <= 4611686018427387904) (hy : ∀ y ∈ l, y.2.2.1.length <= 1099511627776 /\ (∀ z : tTNode, z ∈ y.2.2.1 -> z.2.2.2.2.2.1.length <= 1099511627776 /\ z.2.2.2.2.2.2.length <= 1099511627776) /\ y.2.2.2.length <= 1099511627776 /\ (∀ z : tTNode, z ∈ y.2.2.2 -> z.2.2.2.2.2.1.length <= 1099511627776 /\ z.2.2.2.2.2.2.length <= 1099511627776)) (R : Nat -> Int -> List tLiteral -> Prop) :
  Ev (fun n => Z51.c n l k (R n)) ↔ Ev (fun n => R n (k + (cLiteralS l : Int)) (mLiteralS l k)) := by
 refine Ev.suc.trans ?_
 simp only [Z51.c, Z51.w]
 rw [Z51_lp l l k 0 rfl (by omega) hl hk hb hy, Ev.s2 R]
 rfl
theorem markLiteralS_of {l : List tLiteral} (h : (l.length + sLiteralS l) <= 1099511627776) : ∀ y : tLiteral, y ∈ l -> y.2.2.1.length <= 1099511627776 /\ (∀ z : tTNode, z ∈ y.2.2.1 -> z.2.2.2.2.2.1.length <= 1099511627776 /\ z.2.2.2.2.2.2.length <= 1099511627776) /\ y.2.2.2.length <= 1099511627776 /\ (∀ z : tTNode, z ∈ y.2.2.2 -> z.2.2.2.2.2.1.length <= 1099511627776 /\ z.2.2.2.2.2.2.length <= 1099511627776) := by
 intro y hy
 have := sLiteralS_mem hy
 exact ⟨(by omega), (fun z hz => by have := sTNodeS_mem hz; exact ⟨(by omega), (by omega)⟩), (by omega), (fun z hz => by have := sTNodeS_mem hz; exact ⟨(by omega), (by omega)⟩)⟩
theorem cLiteralS_le : ∀ {l : List tLiteral}, cLiteralS l <= 8 * (l.length + sLiteralS l)
 | [] => by simp [cLiteralS]
 | y :: r => by
  have := cLiteralS_le (l := r)
  have := cTNodeS_le (l := y.2.2.1)
  have := cTNodeS_le (l := y.2.2.2)
  simp only [cLiteralS, sLiteralS, List.length_cons]; omega
theorem Z55_lp : ∀ (ys l : List Int) (k x : Int), l.drop x.toNat = ys -> 0 <= x -> l.length <= 1099511627776 -> 0 < k -> k + (ys.length : Int) <= 4611686018427387904 -> ∀ (Kx : Nat -> Int -> List Int -> Prop),
  (Ev (fun n => Z55.l2 n k x l (Kx n)) ↔ Ev (fun n => Kx n (k + (ys.length : Int)) (l.take x.toNat ++ mUint64S ys k)))
 | [], l, k, x, h, h0, hl, hk, hb, Kx => by
  have := drop_nil h h0
  refine Ev.suc.trans ?_
  simp (disch := omega) only [Z55.l2, Z55.l2.b, if_neg, decide_eq_true_eq, Ev.s2 Kx]
  rw [List.take_of_length_le (by omega), mUint64S, List.append_nil]
  refine ev_arg2 ?_; simp
 | y :: ys, l, k, x, h, h0, hl, hk, hb, Kx => by
  obtain ⟨e1, e2, e3⟩ := drop_cons h h0
  simp only [List.length_cons] at hb
  refine Ev.suc.trans ?_
  simp (disch := first | assumption | exact hy0.1 | exact hy0.2 | exact hy0.2.1 | exact hy0.2.2 | exact hy0.2.2.1 | exact hy0.2.2.2 | omega) only [Z55.l2, Z55.l2.b, if_pos, decide_eq_true_eq, Ev.s2 Kx, grd_dec2, wrap64, wrapU, rd_set, List.length_set, List.set_set, e2]
  rw [Z55_lp ys _ _ (x + 1) (drop_set e3 (by omega)) (by omega) (by simpa using hl) (by omega) (by omega), Ev.s2 Kx, take_set (by omega) (by omega), List.append_assoc, mUint64S]
  simp only [List.length_cons, List.singleton_append]
  exact ev_arg3 (by omega) (by congr 2 <;> first | rfl | omega | (congr 1; omega) | skip)
theorem Z55_ev {l : List Int} {k : Int} (hl : l.length <= 1099511627776) (hk : 0 < k) (hb : k + (l.length : Int) <= 4611686018427387904) (R : Nat -> Int -> List Int -> Prop) :
  Ev (fun n => Z55.c n l k (R n)) ↔ Ev (fun n => R n (k + (l.length : Int)) (mUint64S l k)) := by
 refine Ev.suc.trans ?_
 simp only [Z55.c, Z55.w]
 rw [Z55_lp l l k 0 rfl (by omega) hl hk hb, Ev.s2 R]
 rfl
def mBitsS : List tBits -> Int -> List tBits
 | [], _ => []
 | y :: r, k => (k, mUint64S y.2 (k + 1)) :: mBitsS r (k + 1 + ((y.2.length : Nat) : Int))
def cBitsS : List tBits -> Nat
 | [] => 0
 | y :: r => (1 + y.2.length) + cBitsS r
theorem Z48_lp : ∀ (ys l : List tBits) (k x : Int), l.drop x.toNat = ys -> 0 <= x -> l.length <= 1099511627776 -> 0 < k -> k + (cBitsS ys : Int) <= 4611686018427387904 -> (∀ y ∈ ys, y.2.length <= 1099511627776) -> ∀ (Kx : Nat -> Int -> List tBits -> Prop),
  (Ev (fun n => Z48.l2 n k x l (Kx n)) ↔ Ev (fun n => Kx n (k + (cBitsS ys : Int)) (l.take x.toNat ++ mBitsS ys k)))
 | [], l, k, x, h, h0, hl, hk, hb, hy, Kx => by
  have := drop_nil h h0
  refine Ev.suc.trans ?_
  simp (disch := omega) only [Z48.l2, Z48.l2.b, if_neg, decide_eq_true_eq, Ev.s2 Kx]
  rw [List.take_of_length_le (by omega), mBitsS, List.append_nil]
  refine ev_arg2 ?_; simp [cBitsS]
 | y :: ys, l, k, x, h, h0, hl, hk, hb, hy, Kx => by
  obtain ⟨e1, e2, e3⟩ := drop_cons h h0
  have hy0 := hy y List.mem_cons_self
  simp only [List.length_cons, cBitsS] at hb
  refine Ev.suc.trans ?_
  simp (disch := first | assumption | exact hy0.1 | exact hy0.2 | exact hy0.2.1 | exact hy0.2.2 | exact hy0.2.2.1 | exact hy0.2.2.2 | omega) only [Z48.l2, Z48.l2.b, if_pos, decide_eq_true_eq, Ev.s2 Kx, grd_dec2, wrap64, wrapU, rd_set, List.length_set, List.set_set, e2, Z54_ev, Z55_ev]
  rw [Z48_lp ys _ _ (x + 1) (drop_set e3 (by omega)) (by omega) (by simpa using hl) (by omega) (by omega) (fun y hy' => hy y (List.mem_cons_of_mem _ hy')), Ev.s2 Kx, take_set (by omega) (by omega), List.append_assoc, mBitsS]
  simp only [List.length_cons, cBitsS, List.singleton_append]
  exact ev_arg3 (by omega) (by congr 2 <;> first | rfl | omega | (congr 1; omega) | skip)
theorem Z48_ev {l : List tBits} {k : Int} (hl : l.length <= 1099511627776) (hk : 0 < k) (hb : k + (cBitsS l : Int) <= 4611686018427387904) (hy : ∀ y ∈ l, y.2.length <= 1099511627776) (R : Nat -> Int -> List tBits -> Prop) :
  Ev (fun n => Z48.c n l k (R n)) ↔ Ev (fun n => R n (k + (cBitsS l : Int)) (mBitsS l k)) := by
 refine Ev.suc.trans ?_
 simp only [Z48.c, Z48.w]
 rw [Z48_lp l l k 0 rfl (by omega) hl hk hb hy, Ev.s2 R]
 rfl
theorem mBitsS_len : ∀ {l : List tBits} {k : Int}, (mBitsS l k).length = l.length
 | [], _ => rfl
 | y :: l, k => by simp [mBitsS, mBitsS_len]
end Go.Vsi
end

section
set_option linter.unusedVariables false
set_option linter.unusedSimpArgs false
set_option synthInstance.maxSize 4096
namespace Go.Vsi
theorem wd_of {l : List Int} (h : Gd (.sl 0 (.int .u64)) l) : Wd l := fun x hx => ⟨(h.2 x hx).1, (h.2 x hx).2⟩
theorem term_wd {t : List tTNode} (h : Gd (.sl 0 yTNode) t) (hz : t.length + sTNodeS t <= 1099511627776) : ∀ x : tTNode, x ∈ t -> Wd x.2.2.2.2.2.1 /\ x.2.2.2.2.2.2.length <= 1099511627776 :=
 fun x hx => ⟨wd_of (h.2 x hx).2.2.2.2.2.1, by have := sTNodeS_mem hx; omega⟩
end Go.Vsi
end

section
set_option linter.unusedVariables false
set_option linter.unusedSimpArgs false
set_option synthInstance.maxSize 4096
namespace Go.Vsi
theorem Z47_lp {l : List Int} (hl : l.length <= 1099511627776) : ∀ (ys : List Int) (k x : Int), l.drop x.toNat = mUint64S ys k -> 0 <= x -> 0 < k -> k + (ys.length : Int) <= 4611686018427387904 -> ∀ (Kx Kr : Nat -> Int -> Prop),
  (Ev (fun n => Z47.l2 n l k x (Kx n) (Kr n)) ↔ Ev (fun n => Kx n (k + (ys.length : Int))))
 | [], k, x, h, h0, hk, hb, Kx, Kr => by
  have := drop_nil h h0
  refine Ev.suc.trans ?_
  simp (disch := omega) only [Z47.l2, Z47.l2.b, if_neg, decide_eq_true_eq, Ev.s1 Kx]
  refine ev_arg ?_; simp
 | y :: ys, k, x, h, h0, hk, hb, Kx, Kr => by
  obtain ⟨e1, e2, e3⟩ := drop_cons h h0
  simp only [List.length_cons] at hb
  refine Ev.suc.trans ?_
  simp (disch := first | assumption | exact hy0.1 | exact hy0.2 | exact hy0.2.1 | exact hy0.2.2 | exact hy0.2.2.1 | exact hy0.2.2.2 | omega) only [Z47.l2, Z47.l2.b, if_pos, if_neg, decide_eq_true_eq, Bool.not_eq_true', decide_eq_false_iff_not, not_true, if_false, Ev.s1 Kx, grd_dec2, wrap64, wrapU, e2, beq_self_eq_true, Bool.true_eq_false, Bool.not_true, Bool.false_eq_true, decide_true, decide_not, Ev.iteI]
  rw [Z47_lp hl ys _ (x + 1) (by first | exact e3 | (rw [e3]; congr 1 <;> omega)) (by omega) (by omega) (by omega), Ev.s1 Kx]
  refine ev_arg ?_; simp only [List.length_cons]; try omega
theorem Z47_ev {l : List Int} {k : Int} (hl : l.length <= 1099511627776) (hk : 0 < k) (hb : k + (l.length : Int) <= 4611686018427387904) (R : Nat -> Int -> Prop) :
  Ev (fun n => Z47.c n (mUint64S l k) k (R n)) ↔ Ev (fun n => R n (k + (l.length : Int))) := by
 refine Ev.suc.trans ?_
 simp only [Z47.c, Z47.w]
 rw [Z47_lp (by rw [mUint64S_len]; exact hl) l k 0 rfl (by omega) hk hb, Ev.s1 R]
theorem Z46_lp {l : List tBits} (hl : l.length <= 1099511627776) : ∀ (ys : List tBits) (k x : Int), l.drop x.toNat = mBitsS ys k -> 0 <= x -> 0 < k -> k + (cBitsS ys : Int) <= 4611686018427387904 -> (∀ y ∈ ys, y.2.length <= 1099511627776) -> ∀ (Kx Kr : Nat -> Int -> Prop),
  (Ev (fun n => Z46.l2 n l k x (Kx n) (Kr n)) ↔ Ev (fun n => Kx n (k + (cBitsS ys : Int))))
 | [], k, x, h, h0, hk, hb, hy, Kx, Kr => by
  have := drop_nil h h0
  refine Ev.suc.trans ?_
  simp (disch := omega) only [Z46.l2, Z46.l2.b, if_neg, decide_eq_true_eq, Ev.s1 Kx]
  refine ev_arg ?_; simp [cBitsS]
 | y :: ys, k, x, h, h0, hk, hb, hy, Kx, Kr => by
  obtain ⟨e1, e2, e3⟩ := drop_cons h h0
  have hy0 := hy y List.mem_cons_self
  simp only [List.length_cons, cBitsS] at hb
  refine Ev.suc.trans ?_
  simp (disch := first | assumption | exact hy0.1 | exact hy0.2 | exact hy0.2.1 | exact hy0.2.2 | exact hy0.2.2.1 | exact hy0.2.2.2 | omega) only [Z46.l2, Z46.l2.b, if_pos, if_neg, decide_eq_true_eq, Bool.not_eq_true', decide_eq_false_iff_not, not_true, if_false, Ev.s1 Kx, grd_dec2, wrap64, wrapU, e2, Z47_ev, beq_self_eq_true, Bool.true_eq_false, Bool.not_true, Bool.false_eq_true, decide_true, decide_not, Ev.iteI]
  rw [Z46_lp hl ys _ (x + 1) (by first | exact e3 | (rw [e3]; congr 1 <;> omega)) (by omega) (by omega) (by omega) (fun y hy' => hy y (List.mem_cons_of_mem _ hy')), Ev.s1 Kx]
  refine ev_arg ?_; simp only [List.length_cons, cBitsS]; try omega
theorem Z46_ev {l : List tBits} {k : Int} (hl : l.length <= 1099511627776) (hk : 0 < k) (hb : k + (cBitsS l : Int) <= 4611686018427387904) (hy : ∀ y ∈ l, y.2.length <= 1099511627776) (R : Nat -> Int -> Prop) :
  Ev (fun n => Z46.c n (mBitsS l k) k (R n)) ↔ Ev (fun n => R n (k + (cBitsS l : Int))) := by
 refine Ev.suc.trans ?_
 simp only [Z46.c, Z46.w]
 rw [Z46_lp (by rw [mBitsS_len]; exact hl) l k 0 rfl (by omega) hk hb hy, Ev.s1 R]
theorem lits_gN {l : List tLiteral} (h : Gd (.sl 0 yLiteral) l) (hz : l.length + sLiteralS l <= 1099511627776) : LitG l := fun y hy =>
 have := sLiteralS_mem hy
 ⟨term_wd (h.2 y hy).2.2.1 (by omega), term_wd (h.2 y hy).2.2.2 (by omega)⟩
theorem cB_le : ∀ {v : List tBits}, (∀ y ∈ v, y.2.length <= 4096) -> cBitsS v <= 4097 * v.length
 | [], _ => by simp [cBitsS]
 | y :: v, h => by
  have h1 := cB_le fun z hz => h z (List.mem_cons_of_mem y hz)
  have h2 := h y List.mem_cons_self
  simp only [cBitsS, List.length_cons]; omega
theorem nth_short {d : List tDecl} {l : List tLiteral} {c : Int} : (nthOf d l c).1.length <= 4096 /\ ∀ y ∈ (nthOf d l c).1, y.2.length <= 4096 := by
 have hz : (([] : List tBits)).length <= 4096 /\ ∀ y ∈ ([] : List tBits), y.2.length <= 4096 := ⟨by simp, fun y hy => by cases hy⟩
 unfold nthOf
 split
 ·rename_i h
  split
  ·exact hz
  ·have hdo : declsOk d = true := by have := h.1.1; rw [litsOk, Bool.and_eq_true] at this; exact this.1
   obtain ⟨hn, _⟩ := nar_of hdo h.1.2
   obtain ⟨h1, h2⟩ := numOf_ok hn (nthF d l (2 ^ (totW d).toNat) 0 c).toNat
   refine ⟨by rw [h1]; exact hn.1, fun y hy => ?_⟩
   obtain ⟨i, hi, e⟩ := List.getElem_of_mem hy
   have := (h2 i hi).1.short
   rwa [show rd (numOf d (nthF d l (2 ^ (totW d).toNat) 0 c).toNat) i = y from by rw [rd, List.getD_eq_getElem?_getD, List.getElem?_eq_getElem hi]; exact e] at this
 ·exact hz
structure NthIn (d : List tDecl) (l : List tLiteral) (c : Int) : Prop where
 gl : LitG l
 c : c < 9223372036854775808
 z : d.length + sDeclS d + (l.length + sLiteralS l) <= 1048576
theorem nth_q22 {d : List tDecl} {l : List tLiteral} {c : Int} {b : Bool} {i j : List tBits} {Kc0 : Nat -> Bool -> Prop} {Kc1 : Nat -> List tDecl -> List tLiteral -> Int -> Bool -> List tBits -> List tBits -> Prop} (h : Ev (fun n => Kc1 n d l c b i j)) :
  Ev (fun n => laws_FnExactNthValues.q22 n d l c b false i j (Kc0 n) (Kc1 n)) := by
 refine Ev.succ ?_
 simp only [laws_FnExactNthValues.q22, laws_FnExactNthValues.q22.b]
 exact Ev.neg (by decide) h.shift
theorem nth_q14 {d : List tDecl} {l : List tLiteral} {c : Int} (h : NthIn d l c) (K : Nat -> Bool -> Prop) (hK : Ev (fun n => K n true)) :
  Ev (fun n => laws_FnExactNthValues.q14 n d l c (nthOf d l c).2 (nthOf d l c).2 (nthOf d l c).1 d l (nthOf d l c).1 (K n)) := by
 have hz := h.z
 obtain ⟨hf, hs⟩ := nth_short (d := d) (l := l) (c := c)
 have hcb := cB_le hs
 have hs' : ∀ y ∈ (nthOf d l c).1, y.2.length <= 1099511627776 := fun y hy => by have := hs y hy; omega
 have t1 := fun R => Z68_ev (l := d) (by omega) R
 have t2 := fun R => Z71_ev (l := l) (by omega) R
 have e0 := fun R => Z36_ev (l := (nthOf d l c).1) (l' := (nthOf d l c).1) (by omega) hs' R
 have e1 := fun R => Z38_ev (l := d) (l' := d) (by omega) R
 have e2 := fun R => Z41_ev (l := l) (l' := l) (by omega) (eqLiteralS_of (by omega)) R
 have c1 := cDeclS_le (l := d)
 have c2 := cLiteralS_le (l := l)
 have m1 := fun R => Z49_ev (l := d) (k := 1) (by omega) (by omega) (by omega) R
 have m2 := fun R => Z51_ev (l := l) (k := 1 + (cDeclS d : Int)) (by omega) (by omega) (by omega) (markLiteralS_of (by omega)) R
 have m0 := fun R => Z48_ev (l := (nthOf d l c).1) (k := 1) (by omega) (by omega) (by omega) hs' R
 have k0 := fun R => Z46_ev (l := (nthOf d l c).1) (k := 1) (by omega) (by omega) (by omega) hs' R
 have s2 := fun R => nthI_ev (d := d) (l := l) (c := c) (by omega) h.gl.w h.c R
 refine Ev.succ ?_
 simp only [laws_FnExactNthValues.q14, laws_FnExactNthValues.q14.b]
 simp only [t1, t2, e1, e2, m1, m2, decide_true, Bool.not_true, Bool.false_eq_true, if_false, beq_self_eq_true]
 refine Ev.pos (by simp; omega) ?_
 rw [e0]
 simp only [decide_true, Bool.not_true, if_true]
 refine nth_q22 (Kc0 := fun n y => K (n + 1) y) (Kc1 := fun n y99 y100 y101 y102 y103 y104 => laws_FnExactNthValues.j1 (K (n + 1)) n y99 y100 y101 y102 y103 y104) ?_
 simp only [laws_FnExactNthValues.j1, laws_FnExactNthValues.j0]
 rw [m0, k0]
 refine Ev.neg (by simp; omega) ?_
 simp only [decide_true, Bool.not_true, Bool.false_eq_true, if_false]
 rw [t1, t2, s2, e0]
 simp only [decide_true, Bool.not_true, Bool.false_eq_true, if_false, if_true, beq_self_eq_true]
 rw [k0]
 refine Ev.neg (by simp; omega) ?_
 simp only [decide_true, Bool.not_true, Bool.false_eq_true, if_false]
 exact hK.shift
theorem nthValues_law {d : List tDecl} {l : List tLiteral} {c : Int} (hd : Gd (.sl 0 yDecl) d) (hl : Gd (.sl 0 yLiteral) l) (hc : Gd (.int .i64) c) (K : Bool -> Prop) : True /\ (K true -> Ev (fun n => laws_FnExactNthValues.c n d l c K)) := by
 refine ⟨trivial, fun hK => ?_⟩
 have hc1 : c <= 9223372036854775807 := hc.2
 have hc2 : c < 9223372036854775808 := by omega
 refine Ev.succ ?_
 simp only [laws_FnExactNthValues.c, laws_FnExactNthValues.w]
 rw [Z58_ev (by omega) (by omega) hd.1 (szDeclS_gd hd)]
 by_cases z1 : ((d.length + sDeclS d : Nat) : Int) <= 1048576
 ·rw [szr_ok z1]
  refine Ev.neg (by simp; omega) ?_
  rw [Z61_ev (by omega) (by omega) hl.1 (szLiteralS_gd hl)]
  by_cases z2 : ((l.length + sLiteralS l : Nat) : Int) <= 1048576 - ((d.length + sDeclS d : Nat) : Int)
  ·rw [szr_ok z2]
   refine Ev.neg (by simp; omega) ?_
   have h : NthIn d l c := ⟨lits_gN hl (by omega), hc2, by omega⟩
   obtain ⟨hf, hs⟩ := nth_short (d := d) (l := l) (c := c)
   have hs' : ∀ y ∈ (nthOf d l c).1, y.2.length <= 1099511627776 := fun y hy => by have := hs y hy; omega
   have t1 := fun R => Z68_ev (l := d) (by omega) R
   have t2 := fun R => Z71_ev (l := l) (by omega) R
   have s2 := fun R => nthI_ev (d := d) (l := l) (c := c) (by omega) h.gl.w h.c R
   have e0 := fun R => Z36_ev (l := (nthOf d l c).1) (l' := (nthOf d l c).1) (by omega) hs' R
   rw [t1, t2]
   refine nthS_wp (by omega) h.gl h.c _ ?_
   rw [t1, t2, s2, e0]
   simp only [decide_true, Bool.not_true, Bool.false_eq_true, if_false, if_true, beq_self_eq_true]
   exact nth_q14 h (fun n => K) (Ev.const hK)
  ·rw [szr_no z2]
   exact Ev.pos (by decide) (Ev.const hK)
 ·rw [szr_no z1]
  exact Ev.pos (by decide) (Ev.const hK)
end Go.Vsi
end
