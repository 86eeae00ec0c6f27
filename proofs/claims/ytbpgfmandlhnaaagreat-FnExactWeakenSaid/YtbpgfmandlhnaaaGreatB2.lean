/- What the told functions answer. No statement is proved here. -/
import Derived.Test.YtbpgfmandlhnaaaGreatB1

section
set_option linter.unusedVariables false
set_option linter.unusedSimpArgs false
set_option synthInstance.maxSize 4096
namespace Go.Vsi
theorem laws_szDecl_ev {a0 : List UInt8} {a1 : Int} {left : Int} (h0 : -1 ≤ left) (h1 : left ≤ 1099511627776) (h2 : a0.length ≤ 9223372036854775807) (R : Nat → Int → Prop) :
  Ev (fun n => laws_szDecl.c n a0 a1 left (R n)) ↔ Ev (fun n => R n (szr left (a0.length))) := by
 refine Ev.suc.trans ?_
 simp (disch := first | assumption | omega | exact szr_m1 (by assumption) | exact szr_le' (by assumption) (by assumption)) only [laws_szDecl.c, laws_szDecl.w, wrap64, Ev.iteI, decide_eq_true_eq, Ev.s1 R]
 unfold szr; (repeat' split) <;> first | rfl | (exfalso; omega) | exact ev_arg (by omega)
def sDeclS : List tDecl → Nat
 | [] => 0
 | y :: r => y.1.length + sDeclS r
theorem sDeclS_mem {y : tDecl} : ∀ {l : List tDecl}, y ∈ l → y.1.length ≤ sDeclS l
 | [], h => absurd h List.not_mem_nil
 | a :: l, h => by
  rw [sDeclS]
  rcases List.mem_cons.1 h with rfl | h
  ·omega
  ·have := sDeclS_mem h; omega
abbrev yDecl : Ty := .prod .str (.int .i64)
theorem szDeclS_gd {l : List tDecl} (h : Gd (.sl 0 yDecl) l) : ∀ y : tDecl, y ∈ l → y.1.length ≤ 9223372036854775807 := fun y hy => (h.2 y hy).1
theorem laws_szDeclS_lp {l : List tDecl} (hl : l.length ≤ 9223372036854775807) : ∀ (ys : List tDecl) (x left : Int), l.drop x.toNat = ys → 0 ≤ x → 0 ≤ left → left ≤ 1099511627776 → (∀ y ∈ ys, y.1.length ≤ 9223372036854775807) → ∀ (Kx : Nat → Int → Prop),
  (Ev (fun n => laws_szDeclS.l5 n l left x (Kx n) (Kx n)) ↔ Ev (fun n => Kx n (szr left (sDeclS ys))))
 | [], x, left, h, h0, h1, h2, hy, Kx => by
  have := drop_nil h h0
  refine Ev.suc.trans ?_
  simp (disch := omega) only [laws_szDeclS.l5, laws_szDeclS.l5.b, if_neg, decide_eq_true_eq, Ev.s1 Kx, sDeclS]
  refine ev_arg ?_; unfold szr; split <;> omega
 | y :: ys, x, left, h, h0, h1, h2, hy, Kx => by
  obtain ⟨e1, e2, e3⟩ := drop_cons h h0
  have hy0 := hy y List.mem_cons_self
  refine Ev.suc.trans ?_
  simp (disch := first | assumption | exact hy0.1 | exact hy0.2 | exact hy0.2.1 | exact hy0.2.2 | exact hy0.2.2.1 | exact hy0.2.2.2 | omega) only [laws_szDeclS.l5, laws_szDeclS.l5.b, if_pos, decide_eq_true_eq, Ev.s1 Kx, grd_dec2, e2, laws_szDecl_ev, Ev.iteI, wrap64]
  split
  ·rename_i hs
   rw [sDeclS, szr_back hs]
  ·rename_i hs
   rw [laws_szDeclS_lp hl ys (x + 1) _ e3 (by omega) (by omega) (szr_le' (by omega) h2) (fun y hy' => hy y (List.mem_cons_of_mem _ hy')), sDeclS, szr_two h1 hs, Ev.s1 Kx]
theorem laws_szDeclS_ev {l : List tDecl} {left : Int} (h0 : -1 ≤ left) (h1 : left ≤ 1099511627776) (hl : l.length ≤ 9223372036854775807) (hy : ∀ y ∈ l, y.1.length ≤ 9223372036854775807) (R : Nat → Int → Prop) :
  Ev (fun n => laws_szDeclS.c n l left (R n)) ↔ Ev (fun n => R n (szr left (l.length + sDeclS l))) := by
 refine Ev.suc.trans ?_
 simp (disch := omega) only [laws_szDeclS.c, laws_szDeclS.w, wrap64, Ev.iteI, decide_eq_true_eq, Ev.s1 R]
 split
 ·refine ev_arg ?_; unfold szr; split <;> omega
 ·rw [laws_szDeclS_lp hl l 0 _ rfl (by omega) (by omega) (by omega) hy, Ev.s1 R]
  refine ev_arg ?_; unfold szr; (repeat' split) <;> omega
theorem laws_szUint64S_ev {l : List Int} {left : Int} (h0 : -1 ≤ left) (h1 : left ≤ 1099511627776) (hl : l.length ≤ 9223372036854775807) (R : Nat → Int → Prop) :
  Ev (fun n => laws_szUint64S.c n l left (R n)) ↔ Ev (fun n => R n (szr left l.length)) := by
 refine Ev.suc.trans ?_
 simp (disch := omega) only [laws_szUint64S.c, laws_szUint64S.w, wrap64, Ev.iteI, decide_eq_true_eq, Ev.s1 R]
 unfold szr; split <;> split <;> first | rfl | omega | exact ev_arg (by omega)
theorem laws_szBits_ev {a0 : Int} {a1 : List Int} {left : Int} (h0 : -1 ≤ left) (h1 : left ≤ 1099511627776) (h2 : a1.length ≤ 9223372036854775807) (R : Nat → Int → Prop) :
  Ev (fun n => laws_szBits.c n a0 a1 left (R n)) ↔ Ev (fun n => R n (szr left (a1.length))) := by
 refine Ev.suc.trans ?_
 simp (disch := first | assumption | omega | exact szr_m1 (by assumption) | exact szr_le' (by assumption) (by assumption)) only [laws_szBits.c, laws_szBits.w, laws_szUint64S_ev, wrap64, Ev.iteI, decide_eq_true_eq, Ev.s1 R]
 unfold szr; (repeat' split) <;> first | rfl | (exfalso; omega) | exact ev_arg (by omega)
theorem laws_szInt64S_ev {l : List Int} {left : Int} (h0 : -1 ≤ left) (h1 : left ≤ 1099511627776) (hl : l.length ≤ 9223372036854775807) (R : Nat → Int → Prop) :
  Ev (fun n => laws_szInt64S.c n l left (R n)) ↔ Ev (fun n => R n (szr left l.length)) := by
 refine Ev.suc.trans ?_
 simp (disch := omega) only [laws_szInt64S.c, laws_szInt64S.w, wrap64, Ev.iteI, decide_eq_true_eq, Ev.s1 R]
 unfold szr; split <;> split <;> first | rfl | omega | exact ev_arg (by omega)
theorem laws_szTNode_ev {a0 : Int} {a1 : Int} {a2 : Int} {a3 : Int} {a4 : Int} {a5 : List Int} {a6 : List Int} {left : Int} (h0 : -1 ≤ left) (h1 : left ≤ 1099511627776) (h2 : a5.length ≤ 9223372036854775807) (h3 : a6.length ≤ 9223372036854775807) (R : Nat → Int → Prop) :
  Ev (fun n => laws_szTNode.c n a0 a1 a2 a3 a4 a5 a6 left (R n)) ↔ Ev (fun n => R n (szr left (a5.length + a6.length))) := by
 refine Ev.suc.trans ?_
 simp (disch := first | assumption | omega | exact szr_m1 (by assumption) | exact szr_le' (by assumption) (by assumption)) only [laws_szTNode.c, laws_szTNode.w, laws_szBits_ev, laws_szInt64S_ev, wrap64, Ev.iteI, decide_eq_true_eq, Ev.s1 R]
 unfold szr; (repeat' split) <;> first | rfl | (exfalso; omega) | exact ev_arg (by omega)
def sTNodeS : List tTNode → Nat
 | [] => 0
 | y :: r => (y.2.2.2.2.2.1.length + y.2.2.2.2.2.2.length) + sTNodeS r
theorem sTNodeS_mem {y : tTNode} : ∀ {l : List tTNode}, y ∈ l → y.2.2.2.2.2.1.length + y.2.2.2.2.2.2.length ≤ sTNodeS l
 | [], h => absurd h List.not_mem_nil
 | a :: l, h => by
  rw [sTNodeS]
  rcases List.mem_cons.1 h with rfl | h
  ·omega
  ·have := sTNodeS_mem h; omega
abbrev yTNode : Ty := .prod (.int .i64) (.prod (.int .i64) (.prod (.int .i64) (.prod (.int .i64) (.prod (.int .i64) (.prod (.sl 0 (.int .u64)) (.sl 0 (.int .i64)))))))
theorem laws_szTNodeS_lp {l : List tTNode} (hl : l.length ≤ 9223372036854775807) : ∀ (ys : List tTNode) (x left : Int), l.drop x.toNat = ys → 0 ≤ x → 0 ≤ left → left ≤ 1099511627776 → (∀ y ∈ ys, y.2.2.2.2.2.1.length ≤ 9223372036854775807 ∧ y.2.2.2.2.2.2.length ≤ 9223372036854775807) → ∀ (Kx : Nat → Int → Prop),
  (Ev (fun n => laws_szTNodeS.l5 n l left x (Kx n) (Kx n)) ↔ Ev (fun n => Kx n (szr left (sTNodeS ys))))
 | [], x, left, h, h0, h1, h2, hy, Kx => by
  have := drop_nil h h0
  refine Ev.suc.trans ?_
  simp (disch := omega) only [laws_szTNodeS.l5, laws_szTNodeS.l5.b, if_neg, decide_eq_true_eq, Ev.s1 Kx, sTNodeS]
  refine ev_arg ?_; unfold szr; split <;> omega
 | y :: ys, x, left, h, h0, h1, h2, hy, Kx => by
  obtain ⟨e1, e2, e3⟩ := drop_cons h h0
  have hy0 := hy y List.mem_cons_self
  refine Ev.suc.trans ?_
  simp (disch := first | assumption | exact hy0.1 | exact hy0.2 | exact hy0.2.1 | exact hy0.2.2 | exact hy0.2.2.1 | exact hy0.2.2.2 | omega) only [laws_szTNodeS.l5, laws_szTNodeS.l5.b, if_pos, decide_eq_true_eq, Ev.s1 Kx, grd_dec2, e2, laws_szTNode_ev, Ev.iteI, wrap64]
  split
  ·rename_i hs
   rw [sTNodeS, szr_back hs]
  ·rename_i hs
   rw [laws_szTNodeS_lp hl ys (x + 1) _ e3 (by omega) (by omega) (szr_le' (by omega) h2) (fun y hy' => hy y (List.mem_cons_of_mem _ hy')), sTNodeS, szr_two h1 hs, Ev.s1 Kx]
theorem laws_szTNodeS_ev {l : List tTNode} {left : Int} (h0 : -1 ≤ left) (h1 : left ≤ 1099511627776) (hl : l.length ≤ 9223372036854775807) (hy : ∀ y ∈ l, y.2.2.2.2.2.1.length ≤ 9223372036854775807 ∧ y.2.2.2.2.2.2.length ≤ 9223372036854775807) (R : Nat → Int → Prop) :
  Ev (fun n => laws_szTNodeS.c n l left (R n)) ↔ Ev (fun n => R n (szr left (l.length + sTNodeS l))) := by
 refine Ev.suc.trans ?_
 simp (disch := omega) only [laws_szTNodeS.c, laws_szTNodeS.w, wrap64, Ev.iteI, decide_eq_true_eq, Ev.s1 R]
 split
 ·refine ev_arg ?_; unfold szr; split <;> omega
 ·rw [laws_szTNodeS_lp hl l 0 _ rfl (by omega) (by omega) (by omega) hy, Ev.s1 R]
  refine ev_arg ?_; unfold szr; (repeat' split) <;> omega
theorem laws_szTerm_ev {a0 : List (Int × Int × Int × Int × Int × List (Int) × List (Int))} {left : Int} (h0 : -1 ≤ left) (h1 : left ≤ 1099511627776) (h2 : a0.length ≤ 9223372036854775807) (h3 : (∀ y : tTNode, y ∈ a0 → y.2.2.2.2.2.1.length ≤ 9223372036854775807 ∧ y.2.2.2.2.2.2.length ≤ 9223372036854775807)) (R : Nat → Int → Prop) :
  Ev (fun n => laws_szTerm.c n a0 left (R n)) ↔ Ev (fun n => R n (szr left ((a0.length + sTNodeS a0)))) := by
 refine Ev.suc.trans ?_
 simp (disch := first | assumption | omega | exact szr_m1 (by assumption) | exact szr_le' (by assumption) (by assumption)) only [laws_szTerm.c, laws_szTerm.w, laws_szTNodeS_ev, wrap64, Ev.iteI, decide_eq_true_eq, Ev.s1 R]
 unfold szr; (repeat' split) <;> first | rfl | (exfalso; omega) | exact ev_arg (by omega)
theorem laws_szLiteral_ev {a0 : Int} {a1 : Bool} {a2 : List (Int × Int × Int × Int × Int × List (Int) × List (Int))} {a3 : List (Int × Int × Int × Int × Int × List (Int) × List (Int))} {left : Int} (h0 : -1 ≤ left) (h1 : left ≤ 1099511627776) (h2 : a2.length ≤ 9223372036854775807) (h3 : (∀ y : tTNode, y ∈ a2 → y.2.2.2.2.2.1.length ≤ 9223372036854775807 ∧ y.2.2.2.2.2.2.length ≤ 9223372036854775807)) (h4 : a3.length ≤ 9223372036854775807) (h5 : (∀ y : tTNode, y ∈ a3 → y.2.2.2.2.2.1.length ≤ 9223372036854775807 ∧ y.2.2.2.2.2.2.length ≤ 9223372036854775807)) (R : Nat → Int → Prop) :
  Ev (fun n => laws_szLiteral.c n a0 a1 a2 a3 left (R n)) ↔ Ev (fun n => R n (szr left (((a2.length + sTNodeS a2)) + ((a3.length + sTNodeS a3))))) := by
 refine Ev.suc.trans ?_
 simp (disch := first | assumption | omega | exact szr_m1 (by assumption) | exact szr_le' (by assumption) (by assumption)) only [laws_szLiteral.c, laws_szLiteral.w, laws_szTerm_ev, wrap64, Ev.iteI, decide_eq_true_eq, Ev.s1 R]
 unfold szr; (repeat' split) <;> first | rfl | (exfalso; omega) | exact ev_arg (by omega)
def sLiteralS : List tLiteral → Nat
 | [] => 0
 | y :: r => (((y.2.2.1.length + sTNodeS y.2.2.1)) + ((y.2.2.2.length + sTNodeS y.2.2.2))) + sLiteralS r
theorem sLiteralS_mem {y : tLiteral} : ∀ {l : List tLiteral}, y ∈ l → ((y.2.2.1.length + sTNodeS y.2.2.1)) + ((y.2.2.2.length + sTNodeS y.2.2.2)) ≤ sLiteralS l
 | [], h => absurd h List.not_mem_nil
 | a :: l, h => by
  rw [sLiteralS]
  rcases List.mem_cons.1 h with rfl | h
  ·omega
  ·have := sLiteralS_mem h; omega
abbrev yLiteral : Ty := .prod (.int .i64) (.prod .bool (.prod (.sl 0 (.prod (.int .i64) (.prod (.int .i64) (.prod (.int .i64) (.prod (.int .i64) (.prod (.int .i64) (.prod (.sl 0 (.int .u64)) (.sl 0 (.int .i64))))))))) (.sl 0 (.prod (.int .i64) (.prod (.int .i64) (.prod (.int .i64) (.prod (.int .i64) (.prod (.int .i64) (.prod (.sl 0 (.int .u64)) (.sl 0 (.int .i64)))))))))))
theorem szLiteralS_gd {l : List tLiteral} (h : Gd (.sl 0 yLiteral) l) : ∀ y : tLiteral, y ∈ l → y.2.2.1.length ≤ 9223372036854775807 ∧ (∀ z : tTNode, z ∈ y.2.2.1 → z.2.2.2.2.2.1.length ≤ 9223372036854775807 ∧ z.2.2.2.2.2.2.length ≤ 9223372036854775807) ∧ y.2.2.2.length ≤ 9223372036854775807 ∧ (∀ z : tTNode, z ∈ y.2.2.2 → z.2.2.2.2.2.1.length ≤ 9223372036854775807 ∧ z.2.2.2.2.2.2.length ≤ 9223372036854775807) := fun y hy => ⟨(h.2 y hy).2.2.1.1, (fun z hz => ⟨((h.2 y hy).2.2.1.2 z hz).2.2.2.2.2.1.1, ((h.2 y hy).2.2.1.2 z hz).2.2.2.2.2.2.1⟩), (h.2 y hy).2.2.2.1, (fun z hz => ⟨((h.2 y hy).2.2.2.2 z hz).2.2.2.2.2.1.1, ((h.2 y hy).2.2.2.2 z hz).2.2.2.2.2.2.1⟩)⟩
theorem laws_szLiteralS_lp {l : List tLiteral} (hl : l.length ≤ 9223372036854775807) : ∀ (ys : List tLiteral) (x left : Int), l.drop x.toNat = ys → 0 ≤ x → 0 ≤ left → left ≤ 1099511627776 → (∀ y ∈ ys, y.2.2.1.length ≤ 9223372036854775807 ∧ (∀ z : tTNode, z ∈ y.2.2.1 → z.2.2.2.2.2.1.length ≤ 9223372036854775807 ∧ z.2.2.2.2.2.2.length ≤ 9223372036854775807) ∧ y.2.2.2.length ≤ 9223372036854775807 ∧ (∀ z : tTNode, z ∈ y.2.2.2 → z.2.2.2.2.2.1.length ≤ 9223372036854775807 ∧ z.2.2.2.2.2.2.length ≤ 9223372036854775807)) → ∀ (Kx : Nat → Int → Prop),
  (Ev (fun n => laws_szLiteralS.l5 n l left x (Kx n) (Kx n)) ↔ Ev (fun n => Kx n (szr left (sLiteralS ys))))
 | [], x, left, h, h0, h1, h2, hy, Kx => by
  have := drop_nil h h0
  refine Ev.suc.trans ?_
  simp (disch := omega) only [laws_szLiteralS.l5, laws_szLiteralS.l5.b, if_neg, decide_eq_true_eq, Ev.s1 Kx, sLiteralS]
  refine ev_arg ?_; unfold szr; split <;> omega
 | y :: ys, x, left, h, h0, h1, h2, hy, Kx => by
  obtain ⟨e1, e2, e3⟩ := drop_cons h h0
  have hy0 := hy y List.mem_cons_self
  refine Ev.suc.trans ?_
  simp (disch := first | assumption | exact hy0.1 | exact hy0.2 | exact hy0.2.1 | exact hy0.2.2 | exact hy0.2.2.1 | exact hy0.2.2.2 | omega) only [laws_szLiteralS.l5, laws_szLiteralS.l5.b, if_pos, decide_eq_true_eq, Ev.s1 Kx, grd_dec2, e2, laws_szLiteral_ev, Ev.iteI, wrap64]
  split
  ·rename_i hs
   rw [sLiteralS, szr_back hs]
  ·rename_i hs
   rw [laws_szLiteralS_lp hl ys (x + 1) _ e3 (by omega) (by omega) (szr_le' (by omega) h2) (fun y hy' => hy y (List.mem_cons_of_mem _ hy')), sLiteralS, szr_two h1 hs, Ev.s1 Kx]
theorem laws_szLiteralS_ev {l : List tLiteral} {left : Int} (h0 : -1 ≤ left) (h1 : left ≤ 1099511627776) (hl : l.length ≤ 9223372036854775807) (hy : ∀ y ∈ l, y.2.2.1.length ≤ 9223372036854775807 ∧ (∀ z : tTNode, z ∈ y.2.2.1 → z.2.2.2.2.2.1.length ≤ 9223372036854775807 ∧ z.2.2.2.2.2.2.length ≤ 9223372036854775807) ∧ y.2.2.2.length ≤ 9223372036854775807 ∧ (∀ z : tTNode, z ∈ y.2.2.2 → z.2.2.2.2.2.1.length ≤ 9223372036854775807 ∧ z.2.2.2.2.2.2.length ≤ 9223372036854775807)) (R : Nat → Int → Prop) :
  Ev (fun n => laws_szLiteralS.c n l left (R n)) ↔ Ev (fun n => R n (szr left (l.length + sLiteralS l))) := by
 refine Ev.suc.trans ?_
 simp (disch := omega) only [laws_szLiteralS.c, laws_szLiteralS.w, wrap64, Ev.iteI, decide_eq_true_eq, Ev.s1 R]
 split
 ·refine ev_arg ?_; unfold szr; split <;> omega
 ·rw [laws_szLiteralS_lp hl l 0 _ rfl (by omega) (by omega) (by omega) hy, Ev.s1 R]
  refine ev_arg ?_; unfold szr; (repeat' split) <;> omega
def sBitsS : List tBits → Nat
 | [] => 0
 | y :: r => y.2.length + sBitsS r
theorem sBitsS_mem {y : tBits} : ∀ {l : List tBits}, y ∈ l → y.2.length ≤ sBitsS l
 | [], h => absurd h List.not_mem_nil
 | a :: l, h => by
  rw [sBitsS]
  rcases List.mem_cons.1 h with rfl | h
  ·omega
  ·have := sBitsS_mem h; omega
abbrev yBits : Ty := .prod (.int .i64) (.sl 0 (.int .u64))
theorem szBitsS_gd {l : List tBits} (h : Gd (.sl 0 yBits) l) : ∀ y : tBits, y ∈ l → y.2.length ≤ 9223372036854775807 := fun y hy => (h.2 y hy).2.1
theorem laws_szBitsS_lp {l : List tBits} (hl : l.length ≤ 9223372036854775807) : ∀ (ys : List tBits) (x left : Int), l.drop x.toNat = ys → 0 ≤ x → 0 ≤ left → left ≤ 1099511627776 → (∀ y ∈ ys, y.2.length ≤ 9223372036854775807) → ∀ (Kx : Nat → Int → Prop),
  (Ev (fun n => laws_szBitsS.l5 n l left x (Kx n) (Kx n)) ↔ Ev (fun n => Kx n (szr left (sBitsS ys))))
 | [], x, left, h, h0, h1, h2, hy, Kx => by
  have := drop_nil h h0
  refine Ev.suc.trans ?_
  simp (disch := omega) only [laws_szBitsS.l5, laws_szBitsS.l5.b, if_neg, decide_eq_true_eq, Ev.s1 Kx, sBitsS]
  refine ev_arg ?_; unfold szr; split <;> omega
 | y :: ys, x, left, h, h0, h1, h2, hy, Kx => by
  obtain ⟨e1, e2, e3⟩ := drop_cons h h0
  have hy0 := hy y List.mem_cons_self
  refine Ev.suc.trans ?_
  simp (disch := first | assumption | exact hy0.1 | exact hy0.2 | exact hy0.2.1 | exact hy0.2.2 | exact hy0.2.2.1 | exact hy0.2.2.2 | omega) only [laws_szBitsS.l5, laws_szBitsS.l5.b, if_pos, decide_eq_true_eq, Ev.s1 Kx, grd_dec2, e2, laws_szBits_ev, Ev.iteI, wrap64]
  split
  ·rename_i hs
   rw [sBitsS, szr_back hs]
  ·rename_i hs
   rw [laws_szBitsS_lp hl ys (x + 1) _ e3 (by omega) (by omega) (szr_le' (by omega) h2) (fun y hy' => hy y (List.mem_cons_of_mem _ hy')), sBitsS, szr_two h1 hs, Ev.s1 Kx]
theorem laws_szBitsS_ev {l : List tBits} {left : Int} (h0 : -1 ≤ left) (h1 : left ≤ 1099511627776) (hl : l.length ≤ 9223372036854775807) (hy : ∀ y ∈ l, y.2.length ≤ 9223372036854775807) (R : Nat → Int → Prop) :
  Ev (fun n => laws_szBitsS.c n l left (R n)) ↔ Ev (fun n => R n (szr left (l.length + sBitsS l))) := by
 refine Ev.suc.trans ?_
 simp (disch := omega) only [laws_szBitsS.c, laws_szBitsS.w, wrap64, Ev.iteI, decide_eq_true_eq, Ev.s1 R]
 split
 ·refine ev_arg ?_; unfold szr; split <;> omega
 ·rw [laws_szBitsS_lp hl l 0 _ rfl (by omega) (by omega) (by omega) hy, Ev.s1 R]
  refine ev_arg ?_; unfold szr; (repeat' split) <;> omega
theorem laws_toDecl_ev {a0 : List UInt8} {a1 : Int} (h : a0.length ≤ 1048576) (R : Nat → List UInt8 → Int → Prop) :
  Ev (fun n => laws_toDecl.c n a0 a1 (R n)) ↔ Ev (fun n => R n a0 a1) := by
 refine Ev.suc.trans ?_
 simp (disch := omega) only [laws_toDecl.c, laws_toDecl.w, Ev.s2 R]
theorem laws_toDeclS_lp {l : List tDecl} (hl : l.length ≤ 1048576) : ∀ (ys : List tDecl) (x : Int) (o : List tDecl), l.drop x.toNat = ys → 0 ≤ x → o.length = l.length → (∀ y ∈ ys, y.1.length ≤ 1048576) → ∀ (Kx : Nat → List tDecl → Prop),
  (Ev (fun n => laws_toDeclS.l3 n l x o (Kx n)) ↔ Ev (fun n => Kx n (o.take x.toNat ++ ys)))
 | [], x, o, h, h0, ho, hy, Kx => by
  have := drop_nil h h0
  refine Ev.suc.trans ?_
  simp (disch := omega) only [laws_toDeclS.l3, laws_toDeclS.l3.b, if_neg, decide_eq_true_eq, Ev.s1 Kx]
  rw [List.take_of_length_le (by omega), List.append_nil]
 | y :: ys, x, o, h, h0, ho, hy, Kx => by
  obtain ⟨e1, e2, e3⟩ := drop_cons h h0
  have hy0 := hy y List.mem_cons_self
  refine Ev.suc.trans ?_
  simp (disch := omega) only [laws_toDeclS.l3, laws_toDeclS.l3.b, if_pos, decide_eq_true_eq, Ev.s1 Kx, grd_dec2, e2, wrap64, laws_toDecl_ev]
  rw [laws_toDeclS_lp hl ys (x + 1) _ e3 (by omega) (by simpa using ho) (fun y hy' => hy y (List.mem_cons_of_mem _ hy')), Ev.s1 Kx, take_set (by omega) (by omega), List.append_assoc]
  rfl
theorem laws_toDeclS_ev {l : List tDecl} (h : (l.length + sDeclS l) ≤ 1048576) (R : Nat → List tDecl → Prop) :
  Ev (fun n => laws_toDeclS.c n l (R n)) ↔ Ev (fun n => R n l) := by
 refine Ev.suc.trans ?_
 simp (disch := omega) only [laws_toDeclS.c, laws_toDeclS.w, grd_dec2, decide_true, Bool.and_true]
 rw [laws_toDeclS_lp (by omega) l 0 _ rfl (by omega) (by simp) (fun y hy => by have := sDeclS_mem hy; omega), Ev.s1 R]
 simp
theorem laws_toUint64S_lp {l : List Int} (hl : l.length ≤ 1048576) : ∀ (ys : List Int) (x : Int) (o : List Int), l.drop x.toNat = ys → 0 ≤ x → o.length = l.length → ∀ (Kx : Nat → List Int → Prop),
  (Ev (fun n => laws_toUint64S.l3 n l x o (Kx n)) ↔ Ev (fun n => Kx n (o.take x.toNat ++ ys)))
 | [], x, o, h, h0, ho, Kx => by
  have := drop_nil h h0
  refine Ev.suc.trans ?_
  simp (disch := omega) only [laws_toUint64S.l3, laws_toUint64S.l3.b, if_neg, decide_eq_true_eq, Ev.s1 Kx]
  rw [List.take_of_length_le (by omega), List.append_nil]
 | y :: ys, x, o, h, h0, ho, Kx => by
  obtain ⟨e1, e2, e3⟩ := drop_cons h h0
  refine Ev.suc.trans ?_
  simp (disch := omega) only [laws_toUint64S.l3, laws_toUint64S.l3.b, if_pos, decide_eq_true_eq, Ev.s1 Kx, grd_dec2, e2, wrap64]
  rw [laws_toUint64S_lp hl ys (x + 1) _ e3 (by omega) (by simpa using ho), Ev.s1 Kx, take_set (by omega) (by omega), List.append_assoc]
  rfl
theorem laws_toUint64S_ev {l : List Int} (h : l.length ≤ 1048576) (R : Nat → List Int → Prop) :
  Ev (fun n => laws_toUint64S.c n l (R n)) ↔ Ev (fun n => R n l) := by
 refine Ev.suc.trans ?_
 simp (disch := omega) only [laws_toUint64S.c, laws_toUint64S.w, grd_dec2, decide_true, Bool.and_true]
 rw [laws_toUint64S_lp (by omega) l 0 _ rfl (by omega) (by simp), Ev.s1 R]
 simp
theorem laws_toBits_ev {a0 : Int} {a1 : List Int} (h : a1.length ≤ 1048576) (R : Nat → Int → List Int → Prop) :
  Ev (fun n => laws_toBits.c n a0 a1 (R n)) ↔ Ev (fun n => R n a0 a1) := by
 refine Ev.suc.trans ?_
 simp (disch := omega) only [laws_toBits.c, laws_toBits.w, laws_toUint64S_ev, Ev.s2 R]
theorem laws_toInt64S_lp {l : List Int} (hl : l.length ≤ 1048576) : ∀ (ys : List Int) (x : Int) (o : List Int), l.drop x.toNat = ys → 0 ≤ x → o.length = l.length → ∀ (Kx : Nat → List Int → Prop),
  (Ev (fun n => laws_toInt64S.l3 n l x o (Kx n)) ↔ Ev (fun n => Kx n (o.take x.toNat ++ ys)))
 | [], x, o, h, h0, ho, Kx => by
  have := drop_nil h h0
  refine Ev.suc.trans ?_
  simp (disch := omega) only [laws_toInt64S.l3, laws_toInt64S.l3.b, if_neg, decide_eq_true_eq, Ev.s1 Kx]
  rw [List.take_of_length_le (by omega), List.append_nil]
 | y :: ys, x, o, h, h0, ho, Kx => by
  obtain ⟨e1, e2, e3⟩ := drop_cons h h0
  refine Ev.suc.trans ?_
  simp (disch := omega) only [laws_toInt64S.l3, laws_toInt64S.l3.b, if_pos, decide_eq_true_eq, Ev.s1 Kx, grd_dec2, e2, wrap64]
  rw [laws_toInt64S_lp hl ys (x + 1) _ e3 (by omega) (by simpa using ho), Ev.s1 Kx, take_set (by omega) (by omega), List.append_assoc]
  rfl
theorem laws_toInt64S_ev {l : List Int} (h : l.length ≤ 1048576) (R : Nat → List Int → Prop) :
  Ev (fun n => laws_toInt64S.c n l (R n)) ↔ Ev (fun n => R n l) := by
 refine Ev.suc.trans ?_
 simp (disch := omega) only [laws_toInt64S.c, laws_toInt64S.w, grd_dec2, decide_true, Bool.and_true]
 rw [laws_toInt64S_lp (by omega) l 0 _ rfl (by omega) (by simp), Ev.s1 R]
 simp
theorem laws_toTNode_ev {a0 : Int} {a1 : Int} {a2 : Int} {a3 : Int} {a4 : Int} {a5 : List Int} {a6 : List Int} (h : a5.length + a6.length ≤ 1048576) (R : Nat → Int → Int → Int → Int → Int → List Int → List Int → Prop) :
  Ev (fun n => laws_toTNode.c n a0 a1 a2 a3 a4 a5 a6 (R n)) ↔ Ev (fun n => R n a0 a1 a2 a3 a4 a5 a6) := by
 refine Ev.suc.trans ?_
 simp (disch := omega) only [laws_toTNode.c, laws_toTNode.w, laws_toBits_ev, laws_toInt64S_ev, Ev.s7 R]
theorem laws_toTNodeS_lp {l : List tTNode} (hl : l.length ≤ 1048576) : ∀ (ys : List tTNode) (x : Int) (o : List tTNode), l.drop x.toNat = ys → 0 ≤ x → o.length = l.length → (∀ y ∈ ys, y.2.2.2.2.2.1.length + y.2.2.2.2.2.2.length ≤ 1048576) → ∀ (Kx : Nat → List tTNode → Prop),
  (Ev (fun n => laws_toTNodeS.l3 n l x o (Kx n)) ↔ Ev (fun n => Kx n (o.take x.toNat ++ ys)))
 | [], x, o, h, h0, ho, hy, Kx => by
  have := drop_nil h h0
  refine Ev.suc.trans ?_
  simp (disch := omega) only [laws_toTNodeS.l3, laws_toTNodeS.l3.b, if_neg, decide_eq_true_eq, Ev.s1 Kx]
  rw [List.take_of_length_le (by omega), List.append_nil]
 | y :: ys, x, o, h, h0, ho, hy, Kx => by
  obtain ⟨e1, e2, e3⟩ := drop_cons h h0
  have hy0 := hy y List.mem_cons_self
  refine Ev.suc.trans ?_
  simp (disch := omega) only [laws_toTNodeS.l3, laws_toTNodeS.l3.b, if_pos, decide_eq_true_eq, Ev.s1 Kx, grd_dec2, e2, wrap64, laws_toTNode_ev]
  rw [laws_toTNodeS_lp hl ys (x + 1) _ e3 (by omega) (by simpa using ho) (fun y hy' => hy y (List.mem_cons_of_mem _ hy')), Ev.s1 Kx, take_set (by omega) (by omega), List.append_assoc]
  rfl
theorem laws_toTNodeS_ev {l : List tTNode} (h : (l.length + sTNodeS l) ≤ 1048576) (R : Nat → List tTNode → Prop) :
  Ev (fun n => laws_toTNodeS.c n l (R n)) ↔ Ev (fun n => R n l) := by
 refine Ev.suc.trans ?_
 simp (disch := omega) only [laws_toTNodeS.c, laws_toTNodeS.w, grd_dec2, decide_true, Bool.and_true]
 rw [laws_toTNodeS_lp (by omega) l 0 _ rfl (by omega) (by simp) (fun y hy => by have := sTNodeS_mem hy; omega), Ev.s1 R]
 simp
theorem laws_toTerm_ev {a0 : List (Int × Int × Int × Int × Int × List (Int) × List (Int))} (h : (a0.length + sTNodeS a0) ≤ 1048576) (R : Nat → List (Int × Int × Int × Int × Int × List (Int) × List (Int)) → Prop) :
  Ev (fun n => laws_toTerm.c n a0 (R n)) ↔ Ev (fun n => R n a0) := by
 refine Ev.suc.trans ?_
 simp (disch := omega) only [laws_toTerm.c, laws_toTerm.w, laws_toTNodeS_ev, Ev.s1 R]
theorem laws_toLiteral_ev {a0 : Int} {a1 : Bool} {a2 : List (Int × Int × Int × Int × Int × List (Int) × List (Int))} {a3 : List (Int × Int × Int × Int × Int × List (Int) × List (Int))} (h : ((a2.length + sTNodeS a2)) + ((a3.length + sTNodeS a3)) ≤ 1048576) (R : Nat → Int → Bool → List (Int × Int × Int × Int × Int × List (Int) × List (Int)) → List (Int × Int × Int × Int × Int × List (Int) × List (Int)) → Prop) :
  Ev (fun n => laws_toLiteral.c n a0 a1 a2 a3 (R n)) ↔ Ev (fun n => R n a0 a1 a2 a3) := by
 refine Ev.suc.trans ?_
 simp (disch := omega) only [laws_toLiteral.c, laws_toLiteral.w, laws_toTerm_ev, Ev.s4 R]
theorem laws_toLiteralS_lp {l : List tLiteral} (hl : l.length ≤ 1048576) : ∀ (ys : List tLiteral) (x : Int) (o : List tLiteral), l.drop x.toNat = ys → 0 ≤ x → o.length = l.length → (∀ y ∈ ys, ((y.2.2.1.length + sTNodeS y.2.2.1)) + ((y.2.2.2.length + sTNodeS y.2.2.2)) ≤ 1048576) → ∀ (Kx : Nat → List tLiteral → Prop),
  (Ev (fun n => laws_toLiteralS.l3 n l x o (Kx n)) ↔ Ev (fun n => Kx n (o.take x.toNat ++ ys)))
 | [], x, o, h, h0, ho, hy, Kx => by
  have := drop_nil h h0
  refine Ev.suc.trans ?_
  simp (disch := omega) only [laws_toLiteralS.l3, laws_toLiteralS.l3.b, if_neg, decide_eq_true_eq, Ev.s1 Kx]
  rw [List.take_of_length_le (by omega), List.append_nil]
 | y :: ys, x, o, h, h0, ho, hy, Kx => by
  obtain ⟨e1, e2, e3⟩ := drop_cons h h0
  have hy0 := hy y List.mem_cons_self
  refine Ev.suc.trans ?_
  simp (disch := omega) only [laws_toLiteralS.l3, laws_toLiteralS.l3.b, if_pos, decide_eq_true_eq, Ev.s1 Kx, grd_dec2, e2, wrap64, laws_toLiteral_ev]
  rw [laws_toLiteralS_lp hl ys (x + 1) _ e3 (by omega) (by simpa using ho) (fun y hy' => hy y (List.mem_cons_of_mem _ hy')), Ev.s1 Kx, take_set (by omega) (by omega), List.append_assoc]
  rfl
theorem laws_toLiteralS_ev {l : List tLiteral} (h : (l.length + sLiteralS l) ≤ 1048576) (R : Nat → List tLiteral → Prop) :
  Ev (fun n => laws_toLiteralS.c n l (R n)) ↔ Ev (fun n => R n l) := by
 refine Ev.suc.trans ?_
 simp (disch := omega) only [laws_toLiteralS.c, laws_toLiteralS.w, grd_dec2, decide_true, Bool.and_true]
 rw [laws_toLiteralS_lp (by omega) l 0 _ rfl (by omega) (by simp) (fun y hy => by have := sLiteralS_mem hy; omega), Ev.s1 R]
 simp
theorem laws_toBitsS_lp {l : List tBits} (hl : l.length ≤ 1048576) : ∀ (ys : List tBits) (x : Int) (o : List tBits), l.drop x.toNat = ys → 0 ≤ x → o.length = l.length → (∀ y ∈ ys, y.2.length ≤ 1048576) → ∀ (Kx : Nat → List tBits → Prop),
  (Ev (fun n => laws_toBitsS.l3 n l x o (Kx n)) ↔ Ev (fun n => Kx n (o.take x.toNat ++ ys)))
 | [], x, o, h, h0, ho, hy, Kx => by
  have := drop_nil h h0
  refine Ev.suc.trans ?_
  simp (disch := omega) only [laws_toBitsS.l3, laws_toBitsS.l3.b, if_neg, decide_eq_true_eq, Ev.s1 Kx]
  rw [List.take_of_length_le (by omega), List.append_nil]
 | y :: ys, x, o, h, h0, ho, hy, Kx => by
  obtain ⟨e1, e2, e3⟩ := drop_cons h h0
  have hy0 := hy y List.mem_cons_self
  refine Ev.suc.trans ?_
  simp (disch := omega) only [laws_toBitsS.l3, laws_toBitsS.l3.b, if_pos, decide_eq_true_eq, Ev.s1 Kx, grd_dec2, e2, wrap64, laws_toBits_ev]
  rw [laws_toBitsS_lp hl ys (x + 1) _ e3 (by omega) (by simpa using ho) (fun y hy' => hy y (List.mem_cons_of_mem _ hy')), Ev.s1 Kx, take_set (by omega) (by omega), List.append_assoc]
  rfl
theorem laws_toBitsS_ev {l : List tBits} (h : (l.length + sBitsS l) ≤ 1048576) (R : Nat → List tBits → Prop) :
  Ev (fun n => laws_toBitsS.c n l (R n)) ↔ Ev (fun n => R n l) := by
 refine Ev.suc.trans ?_
 simp (disch := omega) only [laws_toBitsS.c, laws_toBitsS.w, grd_dec2, decide_true, Bool.and_true]
 rw [laws_toBitsS_lp (by omega) l 0 _ rfl (by omega) (by simp) (fun y hy => by have := sBitsS_mem hy; omega), Ev.s1 R]
 simp
theorem laws_eqInt64S_lp {l l' : List Int} (hl : l.length ≤ 1099511627776) (hll : l.length = l'.length) : ∀ (ys ys' : List Int) (x : Int), l.drop x.toNat = ys → l'.drop x.toNat = ys' → 0 ≤ x → ∀ (Kx : Nat → Prop) (Kr : Nat → Bool → Prop),
  (Ev (fun n => laws_eqInt64S.l4 n l l' x (Kx n) (Kr n)) ↔ if ys = ys' then Ev Kx else Ev (fun n => Kr n false))
 | [], [], x, h, h', h0, Kx, Kr => by
  have := drop_nil h h0
  refine Ev.suc.trans ?_
  simp (disch := omega) only [laws_eqInt64S.l4, laws_eqInt64S.l4.b, if_neg, decide_eq_true_eq, Ev.s0 Kx, if_true]
 | [], y' :: ys', x, h, h', h0, Kx, Kr => by
  have := drop_nil h h0; have := (drop_cons h' h0).1; omega
 | y :: ys, [], x, h, h', h0, Kx, Kr => by
  have := drop_nil h' h0; have := (drop_cons h h0).1; omega
 | y :: ys, y' :: ys', x, h, h', h0, Kx, Kr => by
  obtain ⟨e1, e2, e3⟩ := drop_cons h h0
  obtain ⟨_, f2, f3⟩ := drop_cons h' h0
  refine Ev.suc.trans ?_
  simp (disch := first | assumption | exact hy0.1 | exact hy0.2 | exact hy0.2.1 | exact hy0.2.2 | exact hy0.2.2.1 | exact hy0.2.2.2 | omega) only [laws_eqInt64S.l4, laws_eqInt64S.l4.b, if_pos, decide_eq_true_eq, Ev.s0 Kx, Ev.s1 Kr, grd_dec2, e2, f2, wrap64, Ev.iteI, Bool.not_eq_true', decide_eq_false_iff_not]
  rw [laws_eqInt64S_lp hl hll ys ys' (x + 1) e3 f3 (by omega), Ev.s0 Kx, Ev.s1 Kr]
  simp only [List.cons.injEq, Prod.ext_iff]
  (repeat' split) <;> first | rfl | (exfalso; simp_all; done)
theorem laws_eqInt64S_ev {l l' : List Int} (hl : l.length ≤ 1099511627776) (R : Nat → Bool → Prop) :
  Ev (fun n => laws_eqInt64S.c n l l' (R n)) ↔ Ev (fun n => R n (decide (l = l'))) := by
 refine Ev.suc.trans ?_
 simp (disch := omega) only [laws_eqInt64S.c, laws_eqInt64S.w, Ev.iteI, Bool.not_eq_true', decide_eq_false_iff_not, Ev.s1 R]
 split
 ·rw [decide_eq_false]; intro e; subst e; omega
 ·rw [laws_eqInt64S_lp hl (by omega) l l' 0 rfl rfl (by omega), Ev.s1 R, Ev.s1 R]
  split
  ·rw [decide_eq_true ‹_›]
  ·rw [decide_eq_false ‹_›]
theorem laws_eqDecl_ev {a0 b0 : List UInt8} {a1 b1 : Int} (R : Nat → Bool → Prop) :
  Ev (fun n => laws_eqDecl.c n a0 a1 b0 b1 (R n)) ↔ Ev (fun n => R n (decide (a0 = b0 ∧ a1 = b1))) := by
 refine Ev.suc.trans ?_
 simp (disch := first | assumption | omega) only [laws_eqDecl.c, laws_eqDecl.w, Ev.iteI, Bool.not_eq_true', decide_eq_false_iff_not, beq_eq_false_iff_ne, ne_eq, Ev.s1 R]
 (repeat' split) <;> first | (rw [decide_eq_false]; simp_all; done) | (rw [decide_eq_true]; simp_all; done)
theorem laws_eqDeclS_lp {l l' : List tDecl} (hl : l.length ≤ 1099511627776) (hll : l.length = l'.length) : ∀ (ys ys' : List tDecl) (x : Int), l.drop x.toNat = ys → l'.drop x.toNat = ys' → 0 ≤ x → ∀ (Kx : Nat → Prop) (Kr : Nat → Bool → Prop),
  (Ev (fun n => laws_eqDeclS.l4 n l l' x (Kx n) (Kr n)) ↔ if ys = ys' then Ev Kx else Ev (fun n => Kr n false))
 | [], [], x, h, h', h0, Kx, Kr => by
  have := drop_nil h h0
  refine Ev.suc.trans ?_
  simp (disch := omega) only [laws_eqDeclS.l4, laws_eqDeclS.l4.b, if_neg, decide_eq_true_eq, Ev.s0 Kx, if_true]
 | [], y' :: ys', x, h, h', h0, Kx, Kr => by
  have := drop_nil h h0; have := (drop_cons h' h0).1; omega
 | y :: ys, [], x, h, h', h0, Kx, Kr => by
  have := drop_nil h' h0; have := (drop_cons h h0).1; omega
 | y :: ys, y' :: ys', x, h, h', h0, Kx, Kr => by
  obtain ⟨e1, e2, e3⟩ := drop_cons h h0
  obtain ⟨_, f2, f3⟩ := drop_cons h' h0
  refine Ev.suc.trans ?_
  simp (disch := first | assumption | exact hy0.1 | exact hy0.2 | exact hy0.2.1 | exact hy0.2.2 | exact hy0.2.2.1 | exact hy0.2.2.2 | omega) only [laws_eqDeclS.l4, laws_eqDeclS.l4.b, if_pos, decide_eq_true_eq, Ev.s0 Kx, Ev.s1 Kr, grd_dec2, e2, f2, wrap64, laws_eqDecl_ev, Ev.iteI, Bool.not_eq_true', decide_eq_false_iff_not]
  rw [laws_eqDeclS_lp hl hll ys ys' (x + 1) e3 f3 (by omega), Ev.s0 Kx, Ev.s1 Kr]
  simp only [List.cons.injEq, Prod.ext_iff]
  (repeat' split) <;> first | rfl | (exfalso; simp_all; done)
theorem laws_eqDeclS_ev {l l' : List tDecl} (hl : l.length ≤ 1099511627776) (R : Nat → Bool → Prop) :
  Ev (fun n => laws_eqDeclS.c n l l' (R n)) ↔ Ev (fun n => R n (decide (l = l'))) := by
 refine Ev.suc.trans ?_
 simp (disch := omega) only [laws_eqDeclS.c, laws_eqDeclS.w, Ev.iteI, Bool.not_eq_true', decide_eq_false_iff_not, Ev.s1 R]
 split
 ·rw [decide_eq_false]; intro e; subst e; omega
 ·rw [laws_eqDeclS_lp hl (by omega) l l' 0 rfl rfl (by omega), Ev.s1 R, Ev.s1 R]
  split
  ·rw [decide_eq_true ‹_›]
  ·rw [decide_eq_false ‹_›]
theorem laws_eqUint64S_lp {l l' : List Int} (hl : l.length ≤ 1099511627776) (hll : l.length = l'.length) : ∀ (ys ys' : List Int) (x : Int), l.drop x.toNat = ys → l'.drop x.toNat = ys' → 0 ≤ x → ∀ (Kx : Nat → Prop) (Kr : Nat → Bool → Prop),
  (Ev (fun n => laws_eqUint64S.l4 n l l' x (Kx n) (Kr n)) ↔ if ys = ys' then Ev Kx else Ev (fun n => Kr n false))
 | [], [], x, h, h', h0, Kx, Kr => by
  have := drop_nil h h0
  refine Ev.suc.trans ?_
  simp (disch := omega) only [laws_eqUint64S.l4, laws_eqUint64S.l4.b, if_neg, decide_eq_true_eq, Ev.s0 Kx, if_true]
 | [], y' :: ys', x, h, h', h0, Kx, Kr => by
  have := drop_nil h h0; have := (drop_cons h' h0).1; omega
 | y :: ys, [], x, h, h', h0, Kx, Kr => by
  have := drop_nil h' h0; have := (drop_cons h h0).1; omega
 | y :: ys, y' :: ys', x, h, h', h0, Kx, Kr => by
  obtain ⟨e1, e2, e3⟩ := drop_cons h h0
  obtain ⟨_, f2, f3⟩ := drop_cons h' h0
  refine Ev.suc.trans ?_
  simp (disch := first | assumption | exact hy0.1 | exact hy0.2 | exact hy0.2.1 | exact hy0.2.2 | exact hy0.2.2.1 | exact hy0.2.2.2 | omega) only [laws_eqUint64S.l4, laws_eqUint64S.l4.b, if_pos, decide_eq_true_eq, Ev.s0 Kx, Ev.s1 Kr, grd_dec2, e2, f2, wrap64, Ev.iteI, Bool.not_eq_true', decide_eq_false_iff_not]
  rw [laws_eqUint64S_lp hl hll ys ys' (x + 1) e3 f3 (by omega), Ev.s0 Kx, Ev.s1 Kr]
  simp only [List.cons.injEq, Prod.ext_iff]
  (repeat' split) <;> first | rfl | (exfalso; simp_all; done)
theorem laws_eqUint64S_ev {l l' : List Int} (hl : l.length ≤ 1099511627776) (R : Nat → Bool → Prop) :
  Ev (fun n => laws_eqUint64S.c n l l' (R n)) ↔ Ev (fun n => R n (decide (l = l'))) := by
 refine Ev.suc.trans ?_
 simp (disch := omega) only [laws_eqUint64S.c, laws_eqUint64S.w, Ev.iteI, Bool.not_eq_true', decide_eq_false_iff_not, Ev.s1 R]
 split
 ·rw [decide_eq_false]; intro e; subst e; omega
 ·rw [laws_eqUint64S_lp hl (by omega) l l' 0 rfl rfl (by omega), Ev.s1 R, Ev.s1 R]
  split
  ·rw [decide_eq_true ‹_›]
  ·rw [decide_eq_false ‹_›]
theorem laws_eqBits_ev {a0 b0 : Int} {a1 b1 : List Int} (h0 : a1.length ≤ 1099511627776) (R : Nat → Bool → Prop) :
  Ev (fun n => laws_eqBits.c n a0 a1 b0 b1 (R n)) ↔ Ev (fun n => R n (decide (a0 = b0 ∧ a1 = b1))) := by
 refine Ev.suc.trans ?_
 simp (disch := first | assumption | omega) only [laws_eqBits.c, laws_eqBits.w, laws_eqUint64S_ev, Ev.iteI, Bool.not_eq_true', decide_eq_false_iff_not, beq_eq_false_iff_ne, ne_eq, Ev.s1 R]
 (repeat' split) <;> first | (rw [decide_eq_false]; simp_all; done) | (rw [decide_eq_true]; simp_all; done)
theorem laws_eqTNode_ev {a0 b0 : Int} {a1 b1 : Int} {a2 b2 : Int} {a3 b3 : Int} {a4 b4 : Int} {a5 b5 : List Int} {a6 b6 : List Int} (h0 : a5.length ≤ 1099511627776) (h1 : a6.length ≤ 1099511627776) (R : Nat → Bool → Prop) :
  Ev (fun n => laws_eqTNode.c n a0 a1 a2 a3 a4 a5 a6 b0 b1 b2 b3 b4 b5 b6 (R n)) ↔ Ev (fun n => R n (decide (a0 = b0 ∧ a1 = b1 ∧ a2 = b2 ∧ a3 = b3 ∧ a4 = b4 ∧ a5 = b5 ∧ a6 = b6))) := by
 refine Ev.suc.trans ?_
 simp (disch := first | assumption | omega) only [laws_eqTNode.c, laws_eqTNode.w, laws_eqBits_ev, laws_eqInt64S_ev, Ev.iteI, Bool.not_eq_true', decide_eq_false_iff_not, beq_eq_false_iff_ne, ne_eq, Ev.s1 R]
 (repeat' split) <;> first | (rw [decide_eq_false]; simp_all; done) | (rw [decide_eq_true]; simp_all; done)
theorem laws_eqTNodeS_lp {l l' : List tTNode} (hl : l.length ≤ 1099511627776) (hll : l.length = l'.length) : ∀ (ys ys' : List tTNode) (x : Int), l.drop x.toNat = ys → l'.drop x.toNat = ys' → 0 ≤ x → (∀ y ∈ ys, y.2.2.2.2.2.1.length ≤ 1099511627776 ∧ y.2.2.2.2.2.2.length ≤ 1099511627776) → ∀ (Kx : Nat → Prop) (Kr : Nat → Bool → Prop),
  (Ev (fun n => laws_eqTNodeS.l4 n l l' x (Kx n) (Kr n)) ↔ if ys = ys' then Ev Kx else Ev (fun n => Kr n false))
 | [], [], x, h, h', h0, hy, Kx, Kr => by
  have := drop_nil h h0
  refine Ev.suc.trans ?_
  simp (disch := omega) only [laws_eqTNodeS.l4, laws_eqTNodeS.l4.b, if_neg, decide_eq_true_eq, Ev.s0 Kx, if_true]
 | [], y' :: ys', x, h, h', h0, hy, Kx, Kr => by
  have := drop_nil h h0; have := (drop_cons h' h0).1; omega
 | y :: ys, [], x, h, h', h0, hy, Kx, Kr => by
  have := drop_nil h' h0; have := (drop_cons h h0).1; omega
 | y :: ys, y' :: ys', x, h, h', h0, hy, Kx, Kr => by
  obtain ⟨e1, e2, e3⟩ := drop_cons h h0
  obtain ⟨_, f2, f3⟩ := drop_cons h' h0
  have hy0 := hy y List.mem_cons_self
  refine Ev.suc.trans ?_
  simp (disch := first | assumption | exact hy0.1 | exact hy0.2 | exact hy0.2.1 | exact hy0.2.2 | exact hy0.2.2.1 | exact hy0.2.2.2 | omega) only [laws_eqTNodeS.l4, laws_eqTNodeS.l4.b, if_pos, decide_eq_true_eq, Ev.s0 Kx, Ev.s1 Kr, grd_dec2, e2, f2, wrap64, laws_eqTNode_ev, Ev.iteI, Bool.not_eq_true', decide_eq_false_iff_not]
  rw [laws_eqTNodeS_lp hl hll ys ys' (x + 1) e3 f3 (by omega) (fun y hy' => hy y (List.mem_cons_of_mem _ hy')), Ev.s0 Kx, Ev.s1 Kr]
  simp only [List.cons.injEq, Prod.ext_iff]
  (repeat' split) <;> first | rfl | (exfalso; simp_all; done)
theorem laws_eqTNodeS_ev {l l' : List tTNode} (hl : l.length ≤ 1099511627776) (hy : ∀ y ∈ l, y.2.2.2.2.2.1.length ≤ 1099511627776 ∧ y.2.2.2.2.2.2.length ≤ 1099511627776) (R : Nat → Bool → Prop) :
  Ev (fun n => laws_eqTNodeS.c n l l' (R n)) ↔ Ev (fun n => R n (decide (l = l'))) := by
 refine Ev.suc.trans ?_
 simp (disch := omega) only [laws_eqTNodeS.c, laws_eqTNodeS.w, Ev.iteI, Bool.not_eq_true', decide_eq_false_iff_not, Ev.s1 R]
 split
 ·rw [decide_eq_false]; intro e; subst e; omega
 ·rw [laws_eqTNodeS_lp hl (by omega) l l' 0 rfl rfl (by omega) hy, Ev.s1 R, Ev.s1 R]
  split
  ·rw [decide_eq_true ‹_›]
  ·rw [decide_eq_false ‹_›]
theorem laws_eqTerm_ev {a0 b0 : List (Int × Int × Int × Int × Int × List (Int) × List (Int))} (h0 : a0.length ≤ 1099511627776) (h1 : (∀ y : tTNode, y ∈ a0 → y.2.2.2.2.2.1.length ≤ 1099511627776 ∧ y.2.2.2.2.2.2.length ≤ 1099511627776)) (R : Nat → Bool → Prop) :
  Ev (fun n => laws_eqTerm.c n a0 b0 (R n)) ↔ Ev (fun n => R n (decide (a0 = b0))) := by
 refine Ev.suc.trans ?_
 simp (disch := first | assumption | omega) only [laws_eqTerm.c, laws_eqTerm.w, laws_eqTNodeS_ev, Ev.iteI, Bool.not_eq_true', decide_eq_false_iff_not, beq_eq_false_iff_ne, ne_eq, Ev.s1 R]
 (repeat' split) <;> first | (rw [decide_eq_false]; simp_all; done) | (rw [decide_eq_true]; simp_all; done)
theorem laws_eqLiteral_ev {a0 b0 : Int} {a1 b1 : Bool} {a2 b2 : List (Int × Int × Int × Int × Int × List (Int) × List (Int))} {a3 b3 : List (Int × Int × Int × Int × Int × List (Int) × List (Int))} (h0 : a2.length ≤ 1099511627776) (h1 : (∀ y : tTNode, y ∈ a2 → y.2.2.2.2.2.1.length ≤ 1099511627776 ∧ y.2.2.2.2.2.2.length ≤ 1099511627776)) (h2 : a3.length ≤ 1099511627776) (h3 : (∀ y : tTNode, y ∈ a3 → y.2.2.2.2.2.1.length ≤ 1099511627776 ∧ y.2.2.2.2.2.2.length ≤ 1099511627776)) (R : Nat → Bool → Prop) :
  Ev (fun n => laws_eqLiteral.c n a0 a1 a2 a3 b0 b1 b2 b3 (R n)) ↔ Ev (fun n => R n (decide (a0 = b0 ∧ a1 = b1 ∧ a2 = b2 ∧ a3 = b3))) := by
 refine Ev.suc.trans ?_
 simp (disch := first | assumption | omega) only [laws_eqLiteral.c, laws_eqLiteral.w, laws_eqTerm_ev, Ev.iteI, Bool.not_eq_true', decide_eq_false_iff_not, beq_eq_false_iff_ne, ne_eq, Ev.s1 R]
 (repeat' split) <;> first | (rw [decide_eq_false]; simp_all; done) | (rw [decide_eq_true]; simp_all; done)
theorem laws_eqLiteralS_lp {l l' : List tLiteral} (hl : l.length ≤ 1099511627776) (hll : l.length = l'.length) : ∀ (ys ys' : List tLiteral) (x : Int), l.drop x.toNat = ys → l'.drop x.toNat = ys' → 0 ≤ x → (∀ y ∈ ys, y.2.2.1.length ≤ 1099511627776 ∧ (∀ z : tTNode, z ∈ y.2.2.1 → z.2.2.2.2.2.1.length ≤ 1099511627776 ∧ z.2.2.2.2.2.2.length ≤ 1099511627776) ∧ y.2.2.2.length ≤ 1099511627776 ∧ (∀ z : tTNode, z ∈ y.2.2.2 → z.2.2.2.2.2.1.length ≤ 1099511627776 ∧ z.2.2.2.2.2.2.length ≤ 1099511627776)) → ∀ (Kx : Nat → Prop) (Kr : Nat → Bool → Prop),
  (Ev (fun n => laws_eqLiteralS.l4 n l l' x (Kx n) (Kr n)) ↔ if ys = ys' then Ev Kx else Ev (fun n => Kr n false))
 | [], [], x, h, h', h0, hy, Kx, Kr => by
  have := drop_nil h h0
  refine Ev.suc.trans ?_
  simp (disch := omega) only [laws_eqLiteralS.l4, laws_eqLiteralS.l4.b, if_neg, decide_eq_true_eq, Ev.s0 Kx, if_true]
 | [], y' :: ys', x, h, h', h0, hy, Kx, Kr => by
  have := drop_nil h h0; have := (drop_cons h' h0).1; omega
 | y :: ys, [], x, h, h', h0, hy, Kx, Kr => by
  have := drop_nil h' h0; have := (drop_cons h h0).1; omega
 | y :: ys, y' :: ys', x, h, h', h0, hy, Kx, Kr => by
  obtain ⟨e1, e2, e3⟩ := drop_cons h h0
  obtain ⟨_, f2, f3⟩ := drop_cons h' h0
  have hy0 := hy y List.mem_cons_self
  refine Ev.suc.trans ?_
  simp (disch := first | assumption | exact hy0.1 | exact hy0.2 | exact hy0.2.1 | exact hy0.2.2 | exact hy0.2.2.1 | exact hy0.2.2.2 | omega) only [laws_eqLiteralS.l4, laws_eqLiteralS.l4.b, if_pos, decide_eq_true_eq, Ev.s0 Kx, Ev.s1 Kr, grd_dec2, e2, f2, wrap64, laws_eqLiteral_ev, Ev.iteI, Bool.not_eq_true', decide_eq_false_iff_not]
  rw [laws_eqLiteralS_lp hl hll ys ys' (x + 1) e3 f3 (by omega) (fun y hy' => hy y (List.mem_cons_of_mem _ hy')), Ev.s0 Kx, Ev.s1 Kr]
  simp only [List.cons.injEq, Prod.ext_iff]
  (repeat' split) <;> first | rfl | (exfalso; simp_all; done)
theorem laws_eqLiteralS_ev {l l' : List tLiteral} (hl : l.length ≤ 1099511627776) (hy : ∀ y ∈ l, y.2.2.1.length ≤ 1099511627776 ∧ (∀ z : tTNode, z ∈ y.2.2.1 → z.2.2.2.2.2.1.length ≤ 1099511627776 ∧ z.2.2.2.2.2.2.length ≤ 1099511627776) ∧ y.2.2.2.length ≤ 1099511627776 ∧ (∀ z : tTNode, z ∈ y.2.2.2 → z.2.2.2.2.2.1.length ≤ 1099511627776 ∧ z.2.2.2.2.2.2.length ≤ 1099511627776)) (R : Nat → Bool → Prop) :
  Ev (fun n => laws_eqLiteralS.c n l l' (R n)) ↔ Ev (fun n => R n (decide (l = l'))) := by
 refine Ev.suc.trans ?_
 simp (disch := omega) only [laws_eqLiteralS.c, laws_eqLiteralS.w, Ev.iteI, Bool.not_eq_true', decide_eq_false_iff_not, Ev.s1 R]
 split
 ·rw [decide_eq_false]; intro e; subst e; omega
 ·rw [laws_eqLiteralS_lp hl (by omega) l l' 0 rfl rfl (by omega) hy, Ev.s1 R, Ev.s1 R]
  split
  ·rw [decide_eq_true ‹_›]
  ·rw [decide_eq_false ‹_›]
theorem eqLiteralS_of {l : List tLiteral} (h : (l.length + sLiteralS l) ≤ 1099511627776) : ∀ y : tLiteral, y ∈ l → y.2.2.1.length ≤ 1099511627776 ∧ (∀ z : tTNode, z ∈ y.2.2.1 → z.2.2.2.2.2.1.length ≤ 1099511627776 ∧ z.2.2.2.2.2.2.length ≤ 1099511627776) ∧ y.2.2.2.length ≤ 1099511627776 ∧ (∀ z : tTNode, z ∈ y.2.2.2 → z.2.2.2.2.2.1.length ≤ 1099511627776 ∧ z.2.2.2.2.2.2.length ≤ 1099511627776) := by
 intro y hy
 have := sLiteralS_mem hy
 exact ⟨(by omega), (fun z hz => by have := sTNodeS_mem hz; exact ⟨(by omega), (by omega)⟩), (by omega), (fun z hz => by have := sTNodeS_mem hz; exact ⟨(by omega), (by omega)⟩)⟩
theorem laws_eqBitsS_lp {l l' : List tBits} (hl : l.length ≤ 1099511627776) (hll : l.length = l'.length) : ∀ (ys ys' : List tBits) (x : Int), l.drop x.toNat = ys → l'.drop x.toNat = ys' → 0 ≤ x → (∀ y ∈ ys, y.2.length ≤ 1099511627776) → ∀ (Kx : Nat → Prop) (Kr : Nat → Bool → Prop),
  (Ev (fun n => laws_eqBitsS.l4 n l l' x (Kx n) (Kr n)) ↔ if ys = ys' then Ev Kx else Ev (fun n => Kr n false))
 | [], [], x, h, h', h0, hy, Kx, Kr => by
  have := drop_nil h h0
  refine Ev.suc.trans ?_
  simp (disch := omega) only [laws_eqBitsS.l4, laws_eqBitsS.l4.b, if_neg, decide_eq_true_eq, Ev.s0 Kx, if_true]
 | [], y' :: ys', x, h, h', h0, hy, Kx, Kr => by
  have := drop_nil h h0; have := (drop_cons h' h0).1; omega
 | y :: ys, [], x, h, h', h0, hy, Kx, Kr => by
  have := drop_nil h' h0; have := (drop_cons h h0).1; omega
 | y :: ys, y' :: ys', x, h, h', h0, hy, Kx, Kr => by
  obtain ⟨e1, e2, e3⟩ := drop_cons h h0
  obtain ⟨_, f2, f3⟩ := drop_cons h' h0
  have hy0 := hy y List.mem_cons_self
  refine Ev.suc.trans ?_
  simp (disch := first | assumption | exact hy0.1 | exact hy0.2 | exact hy0.2.1 | exact hy0.2.2 | exact hy0.2.2.1 | exact hy0.2.2.2 | omega) only [laws_eqBitsS.l4, laws_eqBitsS.l4.b, if_pos, decide_eq_true_eq, Ev.s0 Kx, Ev.s1 Kr, grd_dec2, e2, f2, wrap64, laws_eqBits_ev, Ev.iteI, Bool.not_eq_true', decide_eq_false_iff_not]
  rw [laws_eqBitsS_lp hl hll ys ys' (x + 1) e3 f3 (by omega) (fun y hy' => hy y (List.mem_cons_of_mem _ hy')), Ev.s0 Kx, Ev.s1 Kr]
  simp only [List.cons.injEq, Prod.ext_iff]
  (repeat' split) <;> first | rfl | (exfalso; simp_all; done)
theorem laws_eqBitsS_ev {l l' : List tBits} (hl : l.length ≤ 1099511627776) (hy : ∀ y ∈ l, y.2.length ≤ 1099511627776) (R : Nat → Bool → Prop) :
  Ev (fun n => laws_eqBitsS.c n l l' (R n)) ↔ Ev (fun n => R n (decide (l = l'))) := by
 refine Ev.suc.trans ?_
 simp (disch := omega) only [laws_eqBitsS.c, laws_eqBitsS.w, Ev.iteI, Bool.not_eq_true', decide_eq_false_iff_not, Ev.s1 R]
 split
 ·rw [decide_eq_false]; intro e; subst e; omega
 ·rw [laws_eqBitsS_lp hl (by omega) l l' 0 rfl rfl (by omega) hy, Ev.s1 R, Ev.s1 R]
  split
  ·rw [decide_eq_true ‹_›]
  ·rw [decide_eq_false ‹_›]
theorem eqBitsS_of {l : List tBits} (h : (l.length + sBitsS l) ≤ 1099511627776) : ∀ y : tBits, y ∈ l → y.2.length ≤ 1099511627776 := by
 intro y hy
 have := sBitsS_mem hy
 exact (by omega)
def mDeclS : List tDecl → Int → List tDecl
 | [], _ => []
 | y :: r, k => (mText k, k + 1) :: mDeclS r (k + 1 + 1)
def cDeclS : List tDecl → Nat
 | [] => 0
 | y :: r => (2) + cDeclS r
theorem laws_markDeclS_lp : ∀ (ys l : List tDecl) (k x : Int), l.drop x.toNat = ys → 0 ≤ x → l.length ≤ 1099511627776 → 0 < k → k + (cDeclS ys : Int) ≤ 4611686018427387904 → ∀ (Kx : Nat → Int → List tDecl → Prop),
  (Ev (fun n => laws_markDeclS.l2 n k x l (Kx n)) ↔ Ev (fun n => Kx n (k + (cDeclS ys : Int)) (l.take x.toNat ++ mDeclS ys k)))
 | [], l, k, x, h, h0, hl, hk, hb, Kx => by
  have := drop_nil h h0
  refine Ev.suc.trans ?_
  simp (disch := omega) only [laws_markDeclS.l2, laws_markDeclS.l2.b, if_neg, decide_eq_true_eq, Ev.s2 Kx]
  rw [List.take_of_length_le (by omega), mDeclS, List.append_nil]
  refine ev_arg2 ?_; simp [cDeclS]
 | y :: ys, l, k, x, h, h0, hl, hk, hb, Kx => by
  obtain ⟨e1, e2, e3⟩ := drop_cons h h0
  simp only [List.length_cons, cDeclS] at hb
  refine Ev.suc.trans ?_
  simp (disch := first | assumption | exact hy0.1 | exact hy0.2 | exact hy0.2.1 | exact hy0.2.2 | exact hy0.2.2.1 | exact hy0.2.2.2 | omega) only [laws_markDeclS.l2, laws_markDeclS.l2.b, if_pos, decide_eq_true_eq, Ev.s2 Kx, grd_dec2, wrap64, wrapU, rd_set, List.length_set, List.set_set, e2, markText_ev]
  rw [laws_markDeclS_lp ys _ _ (x + 1) (drop_set e3 (by omega)) (by omega) (by simpa using hl) (by omega) (by omega), Ev.s2 Kx, take_set (by omega) (by omega), List.append_assoc, mDeclS]
  simp only [List.length_cons, cDeclS, List.singleton_append]
  exact ev_arg3 (by omega) (by congr 2 <;> first | rfl | omega | (congr 1; omega) | skip)
theorem laws_markDeclS_ev {l : List tDecl} {k : Int} (hl : l.length ≤ 1099511627776) (hk : 0 < k) (hb : k + (cDeclS l : Int) ≤ 4611686018427387904) (R : Nat → Int → List tDecl → Prop) :
  Ev (fun n => laws_markDeclS.c n l k (R n)) ↔ Ev (fun n => R n (k + (cDeclS l : Int)) (mDeclS l k)) := by
 refine Ev.suc.trans ?_
 simp only [laws_markDeclS.c, laws_markDeclS.w]
 rw [laws_markDeclS_lp l l k 0 rfl (by omega) hl hk hb, Ev.s2 R]
 rfl
theorem cDeclS_le : ∀ {l : List tDecl}, cDeclS l ≤ 8 * (l.length + sDeclS l)
 | [] => by simp [cDeclS]
 | y :: r => by
  have := cDeclS_le (l := r)
  simp only [cDeclS, sDeclS, List.length_cons]; omega
def mUint64S : List Int → Int → List Int
 | [], _ => []
 | y :: r, k => (k) :: mUint64S r (k + 1)
theorem laws_markUint64S_lp : ∀ (ys l : List Int) (k x : Int), l.drop x.toNat = ys → 0 ≤ x → l.length ≤ 1099511627776 → 0 < k → k + (ys.length : Int) ≤ 4611686018427387904 → ∀ (Kx : Nat → Int → List Int → Prop),
  (Ev (fun n => laws_markUint64S.l2 n k x l (Kx n)) ↔ Ev (fun n => Kx n (k + (ys.length : Int)) (l.take x.toNat ++ mUint64S ys k)))
 | [], l, k, x, h, h0, hl, hk, hb, Kx => by
  have := drop_nil h h0
  refine Ev.suc.trans ?_
  simp (disch := omega) only [laws_markUint64S.l2, laws_markUint64S.l2.b, if_neg, decide_eq_true_eq, Ev.s2 Kx]
  rw [List.take_of_length_le (by omega), mUint64S, List.append_nil]
  refine ev_arg2 ?_; simp
 | y :: ys, l, k, x, h, h0, hl, hk, hb, Kx => by
  obtain ⟨e1, e2, e3⟩ := drop_cons h h0
  simp only [List.length_cons] at hb
  refine Ev.suc.trans ?_
  simp (disch := first | assumption | exact hy0.1 | exact hy0.2 | exact hy0.2.1 | exact hy0.2.2 | exact hy0.2.2.1 | exact hy0.2.2.2 | omega) only [laws_markUint64S.l2, laws_markUint64S.l2.b, if_pos, decide_eq_true_eq, Ev.s2 Kx, grd_dec2, wrap64, wrapU, rd_set, List.length_set, List.set_set, e2]
  rw [laws_markUint64S_lp ys _ _ (x + 1) (drop_set e3 (by omega)) (by omega) (by simpa using hl) (by omega) (by omega), Ev.s2 Kx, take_set (by omega) (by omega), List.append_assoc, mUint64S]
  simp only [List.length_cons, List.singleton_append]
  exact ev_arg3 (by omega) (by congr 2 <;> first | rfl | omega | (congr 1; omega) | skip)
theorem laws_markUint64S_ev {l : List Int} {k : Int} (hl : l.length ≤ 1099511627776) (hk : 0 < k) (hb : k + (l.length : Int) ≤ 4611686018427387904) (R : Nat → Int → List Int → Prop) :
  Ev (fun n => laws_markUint64S.c n l k (R n)) ↔ Ev (fun n => R n (k + (l.length : Int)) (mUint64S l k)) := by
 refine Ev.suc.trans ?_
 simp only [laws_markUint64S.c, laws_markUint64S.w]
 rw [laws_markUint64S_lp l l k 0 rfl (by omega) hl hk hb, Ev.s2 R]
 rfl
def mInt64S : List Int → Int → List Int
 | [], _ => []
 | y :: r, k => (k) :: mInt64S r (k + 1)
theorem laws_markInt64S_lp : ∀ (ys l : List Int) (k x : Int), l.drop x.toNat = ys → 0 ≤ x → l.length ≤ 1099511627776 → 0 < k → k + (ys.length : Int) ≤ 4611686018427387904 → ∀ (Kx : Nat → Int → List Int → Prop),
  (Ev (fun n => laws_markInt64S.l2 n k x l (Kx n)) ↔ Ev (fun n => Kx n (k + (ys.length : Int)) (l.take x.toNat ++ mInt64S ys k)))
 | [], l, k, x, h, h0, hl, hk, hb, Kx => by
  have := drop_nil h h0
  refine Ev.suc.trans ?_
  simp (disch := omega) only [laws_markInt64S.l2, laws_markInt64S.l2.b, if_neg, decide_eq_true_eq, Ev.s2 Kx]
  rw [List.take_of_length_le (by omega), mInt64S, List.append_nil]
  refine ev_arg2 ?_; simp
 | y :: ys, l, k, x, h, h0, hl, hk, hb, Kx => by
  obtain ⟨e1, e2, e3⟩ := drop_cons h h0
  simp only [List.length_cons] at hb
  refine Ev.suc.trans ?_
  simp (disch := first | assumption | exact hy0.1 | exact hy0.2 | exact hy0.2.1 | exact hy0.2.2 | exact hy0.2.2.1 | exact hy0.2.2.2 | omega) only [laws_markInt64S.l2, laws_markInt64S.l2.b, if_pos, decide_eq_true_eq, Ev.s2 Kx, grd_dec2, wrap64, wrapU, rd_set, List.length_set, List.set_set, e2]
  rw [laws_markInt64S_lp ys _ _ (x + 1) (drop_set e3 (by omega)) (by omega) (by simpa using hl) (by omega) (by omega), Ev.s2 Kx, take_set (by omega) (by omega), List.append_assoc, mInt64S]
  simp only [List.length_cons, List.singleton_append]
  exact ev_arg3 (by omega) (by congr 2 <;> first | rfl | omega | (congr 1; omega) | skip)
theorem laws_markInt64S_ev {l : List Int} {k : Int} (hl : l.length ≤ 1099511627776) (hk : 0 < k) (hb : k + (l.length : Int) ≤ 4611686018427387904) (R : Nat → Int → List Int → Prop) :
  Ev (fun n => laws_markInt64S.c n l k (R n)) ↔ Ev (fun n => R n (k + (l.length : Int)) (mInt64S l k)) := by
 refine Ev.suc.trans ?_
 simp only [laws_markInt64S.c, laws_markInt64S.w]
 rw [laws_markInt64S_lp l l k 0 rfl (by omega) hl hk hb, Ev.s2 R]
 rfl
theorem mInt64S_len : ∀ {l : List Int} {k : Int}, (mInt64S l k).length = l.length
 | [], _ => rfl
 | y :: l, k => by simp [mInt64S, mInt64S_len]
def mTNodeS : List tTNode → Int → List tTNode
 | [], _ => []
 | y :: r, k => (k, k + 1, k + 1 + 1, k + 1 + 1 + 1, k + 1 + 1 + 1 + 1, mUint64S y.2.2.2.2.2.1 (k + 1 + 1 + 1 + 1 + 1), mInt64S y.2.2.2.2.2.2 (k + 1 + 1 + 1 + 1 + 1 + ((y.2.2.2.2.2.1.length : Nat) : Int))) :: mTNodeS r (k + 1 + 1 + 1 + 1 + 1 + ((y.2.2.2.2.2.1.length : Nat) : Int) + ((y.2.2.2.2.2.2.length : Nat) : Int))
def cTNodeS : List tTNode → Nat
 | [] => 0
 | y :: r => (5 + y.2.2.2.2.2.1.length + y.2.2.2.2.2.2.length) + cTNodeS r
theorem laws_markTNodeS_lp : ∀ (ys l : List tTNode) (k x : Int), l.drop x.toNat = ys → 0 ≤ x → l.length ≤ 1099511627776 → 0 < k → k + (cTNodeS ys : Int) ≤ 4611686018427387904 → (∀ y ∈ ys, y.2.2.2.2.2.1.length ≤ 1099511627776 ∧ y.2.2.2.2.2.2.length ≤ 1099511627776) → ∀ (Kx : Nat → Int → List tTNode → Prop),
  (Ev (fun n => laws_markTNodeS.l2 n k x l (Kx n)) ↔ Ev (fun n => Kx n (k + (cTNodeS ys : Int)) (l.take x.toNat ++ mTNodeS ys k)))
 | [], l, k, x, h, h0, hl, hk, hb, hy, Kx => by
  have := drop_nil h h0
  refine Ev.suc.trans ?_
  simp (disch := omega) only [laws_markTNodeS.l2, laws_markTNodeS.l2.b, if_neg, decide_eq_true_eq, Ev.s2 Kx]
  rw [List.take_of_length_le (by omega), mTNodeS, List.append_nil]
  refine ev_arg2 ?_; simp [cTNodeS]
 | y :: ys, l, k, x, h, h0, hl, hk, hb, hy, Kx => by
  obtain ⟨e1, e2, e3⟩ := drop_cons h h0
  have hy0 := hy y List.mem_cons_self
  simp only [List.length_cons, cTNodeS] at hb
  refine Ev.suc.trans ?_
  simp (disch := first | assumption | exact hy0.1 | exact hy0.2 | exact hy0.2.1 | exact hy0.2.2 | exact hy0.2.2.1 | exact hy0.2.2.2 | omega) only [laws_markTNodeS.l2, laws_markTNodeS.l2.b, if_pos, decide_eq_true_eq, Ev.s2 Kx, grd_dec2, wrap64, wrapU, rd_set, List.length_set, List.set_set, e2, laws_markInt64S_ev, laws_markUint64S_ev]
  rw [laws_markTNodeS_lp ys _ _ (x + 1) (drop_set e3 (by omega)) (by omega) (by simpa using hl) (by omega) (by omega) (fun y hy' => hy y (List.mem_cons_of_mem _ hy')), Ev.s2 Kx, take_set (by omega) (by omega), List.append_assoc, mTNodeS]
  simp only [List.length_cons, cTNodeS, List.singleton_append]
  exact ev_arg3 (by omega) (by congr 2 <;> first | rfl | omega | (congr 1; omega) | skip)
theorem laws_markTNodeS_ev {l : List tTNode} {k : Int} (hl : l.length ≤ 1099511627776) (hk : 0 < k) (hb : k + (cTNodeS l : Int) ≤ 4611686018427387904) (hy : ∀ y ∈ l, y.2.2.2.2.2.1.length ≤ 1099511627776 ∧ y.2.2.2.2.2.2.length ≤ 1099511627776) (R : Nat → Int → List tTNode → Prop) :
  Ev (fun n => laws_markTNodeS.c n l k (R n)) ↔ Ev (fun n => R n (k + (cTNodeS l : Int)) (mTNodeS l k)) := by
 refine Ev.suc.trans ?_
 simp only [laws_markTNodeS.c, laws_markTNodeS.w]
 rw [laws_markTNodeS_lp l l k 0 rfl (by omega) hl hk hb hy, Ev.s2 R]
 rfl
theorem cTNodeS_le : ∀ {l : List tTNode}, cTNodeS l ≤ 8 * (l.length + sTNodeS l)
 | [] => by simp [cTNodeS]
 | y :: r => by
  have := cTNodeS_le (l := r)
  simp only [cTNodeS, sTNodeS, List.length_cons]; omega
def mLiteralS : List tLiteral → Int → List tLiteral
 | [], _ => []
 | y :: r, k => (k, decide (Int.tmod (k + 1) 3 = 0), mTNodeS y.2.2.1 (k + 1 + 1), mTNodeS y.2.2.2 (k + 1 + 1 + ((cTNodeS y.2.2.1 : Nat) : Int))) :: mLiteralS r (k + 1 + 1 + ((cTNodeS y.2.2.1 : Nat) : Int) + ((cTNodeS y.2.2.2 : Nat) : Int))
def cLiteralS : List tLiteral → Nat
 | [] => 0
 | y :: r => (2 + (cTNodeS y.2.2.1) + (cTNodeS y.2.2.2)) + cLiteralS r
theorem laws_markLiteralS_lp : ∀ (ys l : List tLiteral) (k x : Int), l.drop x.toNat = ys → 0 ≤ x → l.length ≤ 1099511627776 → 0 < k → k + (cLiteralS ys : Int) ≤ 4611686018427387904 → (∀ y ∈ ys, y.2.2.1.length ≤ 1099511627776 ∧ (∀ z : tTNode, z ∈ y.2.2.1 → z.2.2.2.2.2.1.length ≤ 1099511627776 ∧ z.2.2.2.2.2.2.length ≤ 1099511627776) ∧ y.2.2.2.length ≤ 1099511627776 ∧ (∀ z : tTNode, z ∈ y.2.2.2 → z.2.2.2.2.2.1.length ≤ 1099511627776 ∧ z.2.2.2.2.2.2.length ≤ 1099511627776)) → ∀ (Kx : Nat → Int → List tLiteral → Prop),
  (Ev (fun n => laws_markLiteralS.l2 n k x l (Kx n)) ↔ Ev (fun n => Kx n (k + (cLiteralS ys : Int)) (l.take x.toNat ++ mLiteralS ys k)))
 | [], l, k, x, h, h0, hl, hk, hb, hy, Kx => by
  have := drop_nil h h0
  refine Ev.suc.trans ?_
  simp (disch := omega) only [laws_markLiteralS.l2, laws_markLiteralS.l2.b, if_neg, decide_eq_true_eq, Ev.s2 Kx]
  rw [List.take_of_length_le (by omega), mLiteralS, List.append_nil]
  refine ev_arg2 ?_; simp [cLiteralS]
 | y :: ys, l, k, x, h, h0, hl, hk, hb, hy, Kx => by
  obtain ⟨e1, e2, e3⟩ := drop_cons h h0
  have hy0 := hy y List.mem_cons_self
  simp only [List.length_cons, cLiteralS] at hb
  refine Ev.suc.trans ?_
  simp (disch := first | assumption | exact hy0.1 | exact hy0.2 | exact hy0.2.1 | exact hy0.2.2 | exact hy0.2.2.1 | exact hy0.2.2.2 | omega) only [laws_markLiteralS.l2, laws_markLiteralS.l2.b, if_pos, decide_eq_true_eq, Ev.s2 Kx, grd_dec2, wrap64, wrapU, rd_set, List.length_set, List.set_set, e2, laws_markTNodeS_ev]
  rw [laws_markLiteralS_lp ys _ _ (x + 1) (drop_set e3 (by omega)) (by omega) (by simpa using hl) (by omega) (by omega) (fun y hy' => hy y (List.mem_cons_of_mem _ hy')), Ev.s2 Kx, take_set (by omega) (by omega), List.append_assoc, mLiteralS]
  simp only [List.length_cons, cLiteralS, List.singleton_append]
  exact ev_arg3 (by omega) (by congr 2 <;> first | rfl | omega | (congr 1; omega) | skip)
theorem laws_markLiteralS_ev {l : List tLiteral} {k : Int} (hl : l.length ≤ 1099511627776) (hk : 0 < k) (hb : k + (cLiteralS l : Int) ≤ 4611686018427387904) (hy : ∀ y ∈ l, y.2.2.1.length ≤ 1099511627776 ∧ (∀ z : tTNode, z ∈ y.2.2.1 → z.2.2.2.2.2.1.length ≤ 1099511627776 ∧ z.2.2.2.2.2.2.length ≤ 1099511627776) ∧ y.2.2.2.length ≤ 1099511627776 ∧ (∀ z : tTNode, z ∈ y.2.2.2 → z.2.2.2.2.2.1.length ≤ 1099511627776 ∧ z.2.2.2.2.2.2.length ≤ 1099511627776)) (R : Nat → Int → List tLiteral → Prop) :
  Ev (fun n => laws_markLiteralS.c n l k (R n)) ↔ Ev (fun n => R n (k + (cLiteralS l : Int)) (mLiteralS l k)) := by
 refine Ev.suc.trans ?_
 simp only [laws_markLiteralS.c, laws_markLiteralS.w]
 rw [laws_markLiteralS_lp l l k 0 rfl (by omega) hl hk hb hy, Ev.s2 R]
 rfl
theorem markLiteralS_of {l : List tLiteral} (h : (l.length + sLiteralS l) ≤ 1099511627776) : ∀ y : tLiteral, y ∈ l → y.2.2.1.length ≤ 1099511627776 ∧ (∀ z : tTNode, z ∈ y.2.2.1 → z.2.2.2.2.2.1.length ≤ 1099511627776 ∧ z.2.2.2.2.2.2.length ≤ 1099511627776) ∧ y.2.2.2.length ≤ 1099511627776 ∧ (∀ z : tTNode, z ∈ y.2.2.2 → z.2.2.2.2.2.1.length ≤ 1099511627776 ∧ z.2.2.2.2.2.2.length ≤ 1099511627776) := by
 intro y hy
 have := sLiteralS_mem hy
 exact ⟨(by omega), (fun z hz => by have := sTNodeS_mem hz; exact ⟨(by omega), (by omega)⟩), (by omega), (fun z hz => by have := sTNodeS_mem hz; exact ⟨(by omega), (by omega)⟩)⟩
theorem cLiteralS_le : ∀ {l : List tLiteral}, cLiteralS l ≤ 8 * (l.length + sLiteralS l)
 | [] => by simp [cLiteralS]
 | y :: r => by
  have := cLiteralS_le (l := r)
  have := cTNodeS_le (l := y.2.2.1)
  have := cTNodeS_le (l := y.2.2.2)
  simp only [cLiteralS, sLiteralS, List.length_cons]; omega
theorem laws_markUint64S_1_lp : ∀ (ys l : List Int) (k x : Int), l.drop x.toNat = ys → 0 ≤ x → l.length ≤ 1099511627776 → 0 < k → k + (ys.length : Int) ≤ 4611686018427387904 → ∀ (Kx : Nat → Int → List Int → Prop),
  (Ev (fun n => laws_markUint64S_1.l2 n k x l (Kx n)) ↔ Ev (fun n => Kx n (k + (ys.length : Int)) (l.take x.toNat ++ mUint64S ys k)))
 | [], l, k, x, h, h0, hl, hk, hb, Kx => by
  have := drop_nil h h0
  refine Ev.suc.trans ?_
  simp (disch := omega) only [laws_markUint64S_1.l2, laws_markUint64S_1.l2.b, if_neg, decide_eq_true_eq, Ev.s2 Kx]
  rw [List.take_of_length_le (by omega), mUint64S, List.append_nil]
  refine ev_arg2 ?_; simp
 | y :: ys, l, k, x, h, h0, hl, hk, hb, Kx => by
  obtain ⟨e1, e2, e3⟩ := drop_cons h h0
  simp only [List.length_cons] at hb
  refine Ev.suc.trans ?_
  simp (disch := first | assumption | exact hy0.1 | exact hy0.2 | exact hy0.2.1 | exact hy0.2.2 | exact hy0.2.2.1 | exact hy0.2.2.2 | omega) only [laws_markUint64S_1.l2, laws_markUint64S_1.l2.b, if_pos, decide_eq_true_eq, Ev.s2 Kx, grd_dec2, wrap64, wrapU, rd_set, List.length_set, List.set_set, e2]
  rw [laws_markUint64S_1_lp ys _ _ (x + 1) (drop_set e3 (by omega)) (by omega) (by simpa using hl) (by omega) (by omega), Ev.s2 Kx, take_set (by omega) (by omega), List.append_assoc, mUint64S]
  simp only [List.length_cons, List.singleton_append]
  exact ev_arg3 (by omega) (by congr 2 <;> first | rfl | omega | (congr 1; omega) | skip)
theorem laws_markUint64S_1_ev {l : List Int} {k : Int} (hl : l.length ≤ 1099511627776) (hk : 0 < k) (hb : k + (l.length : Int) ≤ 4611686018427387904) (R : Nat → Int → List Int → Prop) :
  Ev (fun n => laws_markUint64S_1.c n l k (R n)) ↔ Ev (fun n => R n (k + (l.length : Int)) (mUint64S l k)) := by
 refine Ev.suc.trans ?_
 simp only [laws_markUint64S_1.c, laws_markUint64S_1.w]
 rw [laws_markUint64S_1_lp l l k 0 rfl (by omega) hl hk hb, Ev.s2 R]
 rfl
def mBitsS : List tBits → Int → List tBits
 | [], _ => []
 | y :: r, k => (k, mUint64S y.2 (k + 1)) :: mBitsS r (k + 1 + ((y.2.length : Nat) : Int))
def cBitsS : List tBits → Nat
 | [] => 0
 | y :: r => (1 + y.2.length) + cBitsS r
theorem laws_markBitsS_lp : ∀ (ys l : List tBits) (k x : Int), l.drop x.toNat = ys → 0 ≤ x → l.length ≤ 1099511627776 → 0 < k → k + (cBitsS ys : Int) ≤ 4611686018427387904 → (∀ y ∈ ys, y.2.length ≤ 1099511627776) → ∀ (Kx : Nat → Int → List tBits → Prop),
  (Ev (fun n => laws_markBitsS.l2 n k x l (Kx n)) ↔ Ev (fun n => Kx n (k + (cBitsS ys : Int)) (l.take x.toNat ++ mBitsS ys k)))
 | [], l, k, x, h, h0, hl, hk, hb, hy, Kx => by
  have := drop_nil h h0
  refine Ev.suc.trans ?_
  simp (disch := omega) only [laws_markBitsS.l2, laws_markBitsS.l2.b, if_neg, decide_eq_true_eq, Ev.s2 Kx]
  rw [List.take_of_length_le (by omega), mBitsS, List.append_nil]
  refine ev_arg2 ?_; simp [cBitsS]
 | y :: ys, l, k, x, h, h0, hl, hk, hb, hy, Kx => by
  obtain ⟨e1, e2, e3⟩ := drop_cons h h0
  have hy0 := hy y List.mem_cons_self
  simp only [List.length_cons, cBitsS] at hb
  refine Ev.suc.trans ?_
  simp (disch := first | assumption | exact hy0.1 | exact hy0.2 | exact hy0.2.1 | exact hy0.2.2 | exact hy0.2.2.1 | exact hy0.2.2.2 | omega) only [laws_markBitsS.l2, laws_markBitsS.l2.b, if_pos, decide_eq_true_eq, Ev.s2 Kx, grd_dec2, wrap64, wrapU, rd_set, List.length_set, List.set_set, e2, laws_markUint64S_ev, laws_markUint64S_1_ev]
  rw [laws_markBitsS_lp ys _ _ (x + 1) (drop_set e3 (by omega)) (by omega) (by simpa using hl) (by omega) (by omega) (fun y hy' => hy y (List.mem_cons_of_mem _ hy')), Ev.s2 Kx, take_set (by omega) (by omega), List.append_assoc, mBitsS]
  simp only [List.length_cons, cBitsS, List.singleton_append]
  exact ev_arg3 (by omega) (by congr 2 <;> first | rfl | omega | (congr 1; omega) | skip)
theorem laws_markBitsS_ev {l : List tBits} {k : Int} (hl : l.length ≤ 1099511627776) (hk : 0 < k) (hb : k + (cBitsS l : Int) ≤ 4611686018427387904) (hy : ∀ y ∈ l, y.2.length ≤ 1099511627776) (R : Nat → Int → List tBits → Prop) :
  Ev (fun n => laws_markBitsS.c n l k (R n)) ↔ Ev (fun n => R n (k + (cBitsS l : Int)) (mBitsS l k)) := by
 refine Ev.suc.trans ?_
 simp only [laws_markBitsS.c, laws_markBitsS.w]
 rw [laws_markBitsS_lp l l k 0 rfl (by omega) hl hk hb hy, Ev.s2 R]
 rfl
theorem markBitsS_of {l : List tBits} (h : (l.length + sBitsS l) ≤ 1099511627776) : ∀ y : tBits, y ∈ l → y.2.length ≤ 1099511627776 := by
 intro y hy
 have := sBitsS_mem hy
 exact (by omega)
theorem cBitsS_le : ∀ {l : List tBits}, cBitsS l ≤ 8 * (l.length + sBitsS l)
 | [] => by simp [cBitsS]
 | y :: r => by
  have := cBitsS_le (l := r)
  simp only [cBitsS, sBitsS, List.length_cons]; omega
end Go.Vsi
end

section
set_option linter.unusedVariables false
set_option linter.unusedSimpArgs false
set_option synthInstance.maxSize 4096
namespace Go.Vsi
theorem wd_of {l : List Int} (h : Gd (.sl 0 (.int .u64)) l) : Wd l := fun x hx => ⟨(h.2 x hx).1, (h.2 x hx).2⟩
theorem term_wd {t : List tTNode} (h : Gd (.sl 0 yTNode) t) (hz : t.length + sTNodeS t ≤ 1099511627776) : ∀ x : tTNode, x ∈ t → Wd x.2.2.2.2.2.1 ∧ x.2.2.2.2.2.2.length ≤ 1099511627776 :=
 fun x hx => ⟨wd_of (h.2 x hx).2.2.2.2.2.1, by have := sTNodeS_mem hx; omega⟩
end Go.Vsi
end

section
set_option linter.unusedVariables false
set_option linter.unusedSimpArgs false
set_option synthInstance.maxSize 4096
namespace Go.Vsi
theorem lits_g {l : List tLiteral} (h : Gd (.sl 0 yLiteral) l) (hz : l.length + sLiteralS l ≤ 1099511627776) : LitG l := fun y hy =>
 have := sLiteralS_mem hy
 ⟨term_wd (h.2 y hy).2.2.1 (by omega), term_wd (h.2 y hy).2.2.2 (by omega)⟩
theorem markI1_lp : ∀ (ys l : List Int) (k x : Int), l.drop x.toNat = ys → 0 ≤ x → l.length ≤ 1099511627776 → 0 < k → k + (ys.length : Int) ≤ 4611686018427387904 → ∀ (Kx : Nat → Int → List Int → Prop),
  (Ev (fun n => laws_markInt64S_1.l2 n k x l (Kx n)) ↔ Ev (fun n => Kx n (k + (ys.length : Int)) (l.take x.toNat ++ mInt64S ys k)))
 | [], l, k, x, h, h0, hl, hk, hb, Kx => by
  have := drop_nil h h0
  refine Ev.suc.trans ?_
  simp (disch := omega) only [laws_markInt64S_1.l2, laws_markInt64S_1.l2.b, if_neg, decide_eq_true_eq, Ev.s2 Kx]
  rw [List.take_of_length_le (by omega), mInt64S, List.append_nil]
  refine ev_arg2 ?_; simp
 | y :: ys, l, k, x, h, h0, hl, hk, hb, Kx => by
  obtain ⟨e1, e2, e3⟩ := drop_cons h h0
  simp only [List.length_cons] at hb
  refine Ev.suc.trans ?_
  simp (disch := omega) only [laws_markInt64S_1.l2, laws_markInt64S_1.l2.b, if_pos, decide_eq_true_eq, Ev.s2 Kx, grd_dec2, wrap64, wrapU, rd_set, List.length_set, List.set_set, e2]
  rw [markI1_lp ys _ _ (x + 1) (drop_set e3 (by omega)) (by omega) (by simpa using hl) (by omega) (by omega), Ev.s2 Kx, take_set (by omega) (by omega), List.append_assoc, mInt64S]
  simp only [List.length_cons, List.singleton_append]
  exact ev_arg3 (by omega) (by congr 2 <;> first | rfl | omega | (congr 1; omega) | skip)
theorem markI1_ev {l : List Int} {k : Int} (hl : l.length ≤ 1099511627776) (hk : 0 < k) (hb : k + (l.length : Int) ≤ 4611686018427387904) (R : Nat → Int → List Int → Prop) :
  Ev (fun n => laws_markInt64S_1.c n l k (R n)) ↔ Ev (fun n => R n (k + (l.length : Int)) (mInt64S l k)) := by
 refine Ev.suc.trans ?_
 simp only [laws_markInt64S_1.c, laws_markInt64S_1.w]
 rw [markI1_lp l l k 0 rfl (by omega) hl hk hb, Ev.s2 R]
 rfl
theorem heldI_lp {l : List Int} (hl : l.length ≤ 1099511627776) : ∀ (ys : List Int) (k x : Int), l.drop x.toNat = mInt64S ys k → 0 ≤ x → 0 < k → k + (ys.length : Int) ≤ 4611686018427387904 → ∀ (Kx Kr : Nat → Int → Prop),
  (Ev (fun n => laws_heldInt64S.l2 n l k x (Kx n) (Kr n)) ↔ Ev (fun n => Kx n (k + (ys.length : Int))))
 | [], k, x, h, h0, hk, hb, Kx, Kr => by
  have := drop_nil h h0
  refine Ev.suc.trans ?_
  simp (disch := omega) only [laws_heldInt64S.l2, laws_heldInt64S.l2.b, if_neg, decide_eq_true_eq, Ev.s1 Kx]
  exact ev_arg (by simp)
 | y :: ys, k, x, h, h0, hk, hb, Kx, Kr => by
  rw [mInt64S] at h
  obtain ⟨e1, e2, e3⟩ := drop_cons h h0
  simp only [List.length_cons] at hb
  refine Ev.suc.trans ?_
  simp (disch := omega) only [laws_heldInt64S.l2, laws_heldInt64S.l2.b, if_pos, decide_eq_true_eq, grd_dec2, wrap64, e2, decide_true, Bool.not_true, Bool.false_eq_true, if_false]
  rw [heldI_lp hl ys (k + 1) (x + 1) e3 (by omega) (by omega) (by omega), Ev.s1 Kx]
  exact ev_arg (by simp only [List.length_cons]; omega)
theorem heldI_ev {l : List Int} {k : Int} (hl : l.length ≤ 1099511627776) (hk : 0 < k) (hb : k + (l.length : Int) ≤ 4611686018427387904) (R : Nat → Int → Prop) :
  Ev (fun n => laws_heldInt64S.c n (mInt64S l k) k (R n)) ↔ Ev (fun n => R n (k + (l.length : Int))) := by
 refine Ev.suc.trans ?_
 simp only [laws_heldInt64S.c, laws_heldInt64S.w]
 rw [heldI_lp (by rw [mInt64S_len]; exact hl) l k 0 rfl (by omega) hk hb, Ev.s1 R]
structure WeakIn (d : List tDecl) (l : List tLiteral) (v : List tBits) : Prop where
 gv : ∀ b ∈ v, Wd b.2
 gl : LitG l
 z : d.length + sDeclS d + (l.length + sLiteralS l) + (v.length + sBitsS v) ≤ 1048576
theorem weakOf_len {d : List tDecl} {v : List tBits} {l : List tLiteral} : (weakOf d v l).1.length ≤ l.length := by
 unfold weakOf
 split
 ·simp only [List.length_map, notHeld]; exact List.length_filter_le _ _
 ·simp
theorem weak_q29 {d : List tDecl} {l : List tLiteral} {v : List tBits} {b : Bool} {i j : List Int} {Kc0 : Nat → Bool → Prop} {Kc1 : Nat → List tDecl → List tLiteral → List tBits → Bool → List Int → List Int → Prop} (h : Ev (fun n => Kc1 n d l v b i j)) :
  Ev (fun n => laws_FnExactWeaken.q29 n d l v b false i j (Kc0 n) (Kc1 n)) := by
 refine Ev.succ ?_
 simp only [laws_FnExactWeaken.q29, laws_FnExactWeaken.q29.b]
 exact Ev.neg (by decide) h.shift
theorem weak_q18 {d : List tDecl} {l : List tLiteral} {v : List tBits} (h : WeakIn d l v) (K : Nat → Bool → Prop) (hK : Ev (fun n => K n true)) :
  Ev (fun n => laws_FnExactWeaken.q18 n d l v (weakOf d v l).2 (weakOf d v l).2 (weakOf d v l).1 d l v (weakOf d v l).1 (K n)) := by
 have hz := h.z
 have hf := weakOf_len (d := d) (v := v) (l := l)
 have t1 := fun R => laws_toDeclS_ev (l := d) (by omega) R
 have t2 := fun R => laws_toLiteralS_ev (l := l) (by omega) R
 have t3 := fun R => laws_toBitsS_ev (l := v) (by omega) R
 have e0 := fun R => laws_eqInt64S_ev (l := (weakOf d v l).1) (l' := (weakOf d v l).1) (by omega) R
 have e1 := fun R => laws_eqDeclS_ev (l := d) (l' := d) (by omega) R
 have e2 := fun R => laws_eqLiteralS_ev (l := l) (l' := l) (by omega) (eqLiteralS_of (by omega)) R
 have e3 := fun R => laws_eqBitsS_ev (l := v) (l' := v) (by omega) (eqBitsS_of (by omega)) R
 have c1 := cDeclS_le (l := d)
 have c2 := cLiteralS_le (l := l)
 have c3 := cBitsS_le (l := v)
 have m1 := fun R => laws_markDeclS_ev (l := d) (k := 1) (by omega) (by omega) (by omega) R
 have m2 := fun R => laws_markLiteralS_ev (l := l) (k := 1 + (cDeclS d : Int)) (by omega) (by omega) (by omega) (markLiteralS_of (by omega)) R
 have m3 := fun R => laws_markBitsS_ev (l := v) (k := 1 + (cDeclS d : Int) + (cLiteralS l : Int)) (by omega) (by omega) (by omega) (markBitsS_of (by omega)) R
 have m0 := fun R => markI1_ev (l := (weakOf d v l).1) (k := 1) (by omega) (by omega) (by omega) R
 have k0 := fun R => heldI_ev (l := (weakOf d v l).1) (k := 1) (by omega) (by omega) (by omega) R
 have s2 := fun R => weakI_ev (d := d) (vals := v) (l := l) (by omega) h.gv h.gl.w R
 refine Ev.succ ?_
 simp only [laws_FnExactWeaken.q18, laws_FnExactWeaken.q18.b]
 simp only [t1, t2, t3, e0, e1, e2, e3, m1, m2, m3, decide_true, Bool.not_true, Bool.false_eq_true, if_false, beq_self_eq_true]
 refine Ev.pos (by simp; omega) ?_
 rw [e0]
 simp only [decide_true, Bool.not_true, if_true]
 refine weak_q29 (Kc0 := fun n y => K (n + 1) y) (Kc1 := fun n y99 y100 y101 y102 y103 y104 => laws_FnExactWeaken.j1 (K (n + 1)) n y99 y100 y101 y102 y103 y104) ?_
 simp only [laws_FnExactWeaken.j1, laws_FnExactWeaken.j0]
 rw [m0, k0]
 refine Ev.neg (by simp; omega) ?_
 simp only [decide_true, Bool.not_true, Bool.false_eq_true, if_false]
 rw [t1, t2, t3, s2, e0]
 simp only [decide_true, Bool.not_true, Bool.false_eq_true, if_false, if_true, beq_self_eq_true]
 rw [k0]
 refine Ev.neg (by simp; omega) ?_
 simp only [decide_true, Bool.not_true, Bool.false_eq_true, if_false]
 exact hK.shift
theorem weaken_law {d : List tDecl} {l : List tLiteral} {v : List tBits} (hd : Gd (.sl 0 yDecl) d) (hl : Gd (.sl 0 yLiteral) l) (hv : Gd (.sl 0 yBits) v) (K : Bool → Prop) : True ∧ (K true → Ev (fun n => laws_FnExactWeaken.c n d l v K)) := by
 refine ⟨trivial, fun hK => ?_⟩
 refine Ev.succ ?_
 simp only [laws_FnExactWeaken.c, laws_FnExactWeaken.w]
 rw [laws_szDeclS_ev (by omega) (by omega) hd.1 (szDeclS_gd hd)]
 by_cases z1 : ((d.length + sDeclS d : Nat) : Int) ≤ 1048576
 ·rw [szr_ok z1]
  refine Ev.neg (by simp; omega) ?_
  rw [laws_szLiteralS_ev (by omega) (by omega) hl.1 (szLiteralS_gd hl)]
  by_cases z2 : ((l.length + sLiteralS l : Nat) : Int) ≤ 1048576 - ((d.length + sDeclS d : Nat) : Int)
  ·rw [szr_ok z2]
   refine Ev.neg (by simp; omega) ?_
   rw [laws_szBitsS_ev (by omega) (by omega) hv.1 (szBitsS_gd hv)]
   by_cases z3 : ((v.length + sBitsS v : Nat) : Int) ≤ 1048576 - ((d.length + sDeclS d : Nat) : Int) - ((l.length + sLiteralS l : Nat) : Int)
   ·rw [szr_ok z3]
    refine Ev.neg (by simp; omega) ?_
    have h : WeakIn d l v := ⟨fun b hb => wd_of (hv.2 b hb).2, lits_g hl (by omega), by omega⟩
    have t1 := fun R => laws_toDeclS_ev (l := d) (by omega) R
    have t2 := fun R => laws_toLiteralS_ev (l := l) (by omega) R
    have t3 := fun R => laws_toBitsS_ev (l := v) (by omega) R
    have s1 := fun R => weakS_ev (d := d) (vals := v) (l := l) (by omega) h.gv h.gl R
    have s2 := fun R => weakI_ev (d := d) (vals := v) (l := l) (by omega) h.gv h.gl.w R
    have hf := weakOf_len (d := d) (v := v) (l := l)
    have e0 := fun R => laws_eqInt64S_ev (l := (weakOf d v l).1) (l' := (weakOf d v l).1) (by omega) R
    rw [t1, t2, t3, s1, t1, t2, t3, s2, e0]
    simp only [decide_true, Bool.not_true, Bool.false_eq_true, if_false, if_true, beq_self_eq_true]
    exact weak_q18 h (fun n => K) (Ev.const hK)
   ·rw [szr_no z3]
    exact Ev.pos (by decide) (Ev.const hK)
  ·rw [szr_no z2]
   exact Ev.pos (by decide) (Ev.const hK)
 ·rw [szr_no z1]
  exact Ev.pos (by decide) (Ev.const hK)
end Go.Vsi
end
