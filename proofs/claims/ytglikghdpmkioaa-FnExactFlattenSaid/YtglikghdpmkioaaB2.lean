/- What the told functions answer. No statement is proved here. -/
import Derived.Test.YtglikghdpmkioaaB1

section
set_option linter.unusedVariables false
set_option linter.unusedSimpArgs false
set_option synthInstance.maxSize 4096
namespace Go.Vsi
theorem laws_szDecl_ev {a0 : List UInt8} {a1 : Int} {left : Int} (h0 : -1 ≤ left) (h1 : left ≤ 1099511627776) (h2 : a0.length ≤ 9223372036854775807) (R : Nat → Int → Prop) :
  Ev (fun n => laws_szDecl.c n a0 a1 left (R n)) ↔ Ev (fun n => R n (szr left (a0.length))) := by
 refine Ev.suc.trans ?_
 simp (disch := first | assumption | omega | exact szr_m1 (by assumption) | exact szr_le' (by assumption) (by assumption)) only [laws_szDecl.c, laws_szDecl.w, wrap64, Ev.iteI, decide_eq_true_eq, Ev.s1 R]
 unfold szr; (repeat' split) <;> first | rfl | (exfalso; omega) | exact ev_arg (by omega)
def sDeclS : List tDecl → Nat
 | [] => 0
 | y :: r => y.1.length + sDeclS r
theorem sDeclS_mem {y : tDecl} : ∀ {l : List tDecl}, y ∈ l → y.1.length ≤ sDeclS l
 | [], h => absurd h List.not_mem_nil
 | a :: l, h => by
  rw [sDeclS]
  rcases List.mem_cons.1 h with rfl | h
  ·omega
  ·have := sDeclS_mem h; omega
abbrev yDecl : Ty := .prod .str (.int .i64)
theorem szDeclS_gd {l : List tDecl} (h : Gd (.sl 0 yDecl) l) : ∀ y : tDecl, y ∈ l → y.1.length ≤ 9223372036854775807 := fun y hy => (h.2 y hy).1
theorem laws_szDeclS_lp {l : List tDecl} (hl : l.length ≤ 9223372036854775807) : ∀ (ys : List tDecl) (x left : Int), l.drop x.toNat = ys → 0 ≤ x → 0 ≤ left → left ≤ 1099511627776 → (∀ y ∈ ys, y.1.length ≤ 9223372036854775807) → ∀ (Kx : Nat → Int → Prop),
  (Ev (fun n => laws_szDeclS.l5 n l left x (Kx n) (Kx n)) ↔ Ev (fun n => Kx n (szr left (sDeclS ys))))
 | [], x, left, h, h0, h1, h2, hy, Kx => by
  have := drop_nil h h0
  refine Ev.suc.trans ?_
  simp (disch := omega) only [laws_szDeclS.l5, laws_szDeclS.l5.b, if_neg, decide_eq_true_eq, Ev.s1 Kx, sDeclS]
  refine ev_arg ?_; unfold szr; split <;> omega
 | y :: ys, x, left, h, h0, h1, h2, hy, Kx => by
  obtain ⟨e1, e2, e3⟩ := drop_cons h h0
  have hy0 := hy y List.mem_cons_self
  refine Ev.suc.trans ?_
  simp (disch := first | assumption | exact hy0.1 | exact hy0.2 | exact hy0.2.1 | exact hy0.2.2 | exact hy0.2.2.1 | exact hy0.2.2.2 | omega) only [laws_szDeclS.l5, laws_szDeclS.l5.b, if_pos, decide_eq_true_eq, Ev.s1 Kx, grd_dec2, e2, laws_szDecl_ev, Ev.iteI, wrap64]
  split
  ·rename_i hs
   rw [sDeclS, szr_back hs]
  ·rename_i hs
   rw [laws_szDeclS_lp hl ys (x + 1) _ e3 (by omega) (by omega) (szr_le' (by omega) h2) (fun y hy' => hy y (List.mem_cons_of_mem _ hy')), sDeclS, szr_two h1 hs, Ev.s1 Kx]
theorem laws_szDeclS_ev {l : List tDecl} {left : Int} (h0 : -1 ≤ left) (h1 : left ≤ 1099511627776) (hl : l.length ≤ 9223372036854775807) (hy : ∀ y ∈ l, y.1.length ≤ 9223372036854775807) (R : Nat → Int → Prop) :
  Ev (fun n => laws_szDeclS.c n l left (R n)) ↔ Ev (fun n => R n (szr left (l.length + sDeclS l))) := by
 refine Ev.suc.trans ?_
 simp (disch := omega) only [laws_szDeclS.c, laws_szDeclS.w, wrap64, Ev.iteI, decide_eq_true_eq, Ev.s1 R]
 split
 ·refine ev_arg ?_; unfold szr; split <;> omega
 ·rw [laws_szDeclS_lp hl l 0 _ rfl (by omega) (by omega) (by omega) hy, Ev.s1 R]
  refine ev_arg ?_; unfold szr; (repeat' split) <;> omega
theorem laws_szUint64S_ev {l : List Int} {left : Int} (h0 : -1 ≤ left) (h1 : left ≤ 1099511627776) (hl : l.length ≤ 9223372036854775807) (R : Nat → Int → Prop) :
  Ev (fun n => laws_szUint64S.c n l left (R n)) ↔ Ev (fun n => R n (szr left l.length)) := by
 refine Ev.suc.trans ?_
 simp (disch := omega) only [laws_szUint64S.c, laws_szUint64S.w, wrap64, Ev.iteI, decide_eq_true_eq, Ev.s1 R]
 unfold szr; split <;> split <;> first | rfl | omega | exact ev_arg (by omega)
theorem laws_szBits_ev {a0 : Int} {a1 : List Int} {left : Int} (h0 : -1 ≤ left) (h1 : left ≤ 1099511627776) (h2 : a1.length ≤ 9223372036854775807) (R : Nat → Int → Prop) :
  Ev (fun n => laws_szBits.c n a0 a1 left (R n)) ↔ Ev (fun n => R n (szr left (a1.length))) := by
 refine Ev.suc.trans ?_
 simp (disch := first | assumption | omega | exact szr_m1 (by assumption) | exact szr_le' (by assumption) (by assumption)) only [laws_szBits.c, laws_szBits.w, laws_szUint64S_ev, wrap64, Ev.iteI, decide_eq_true_eq, Ev.s1 R]
 unfold szr; (repeat' split) <;> first | rfl | (exfalso; omega) | exact ev_arg (by omega)
theorem laws_szInt64S_ev {l : List Int} {left : Int} (h0 : -1 ≤ left) (h1 : left ≤ 1099511627776) (hl : l.length ≤ 9223372036854775807) (R : Nat → Int → Prop) :
  Ev (fun n => laws_szInt64S.c n l left (R n)) ↔ Ev (fun n => R n (szr left l.length)) := by
 refine Ev.suc.trans ?_
 simp (disch := omega) only [laws_szInt64S.c, laws_szInt64S.w, wrap64, Ev.iteI, decide_eq_true_eq, Ev.s1 R]
 unfold szr; split <;> split <;> first | rfl | omega | exact ev_arg (by omega)
theorem laws_szTNode_ev {a0 : Int} {a1 : Int} {a2 : Int} {a3 : Int} {a4 : Int} {a5 : List Int} {a6 : List Int} {left : Int} (h0 : -1 ≤ left) (h1 : left ≤ 1099511627776) (h2 : a5.length ≤ 9223372036854775807) (h3 : a6.length ≤ 9223372036854775807) (R : Nat → Int → Prop) :
  Ev (fun n => laws_szTNode.c n a0 a1 a2 a3 a4 a5 a6 left (R n)) ↔ Ev (fun n => R n (szr left (a5.length + a6.length))) := by
 refine Ev.suc.trans ?_
 simp (disch := first | assumption | omega | exact szr_m1 (by assumption) | exact szr_le' (by assumption) (by assumption)) only [laws_szTNode.c, laws_szTNode.w, laws_szBits_ev, laws_szInt64S_ev, wrap64, Ev.iteI, decide_eq_true_eq, Ev.s1 R]
 unfold szr; (repeat' split) <;> first | rfl | (exfalso; omega) | exact ev_arg (by omega)
def sTNodeS : List tTNode → Nat
 | [] => 0
 | y :: r => (y.2.2.2.2.2.1.length + y.2.2.2.2.2.2.length) + sTNodeS r
theorem sTNodeS_mem {y : tTNode} : ∀ {l : List tTNode}, y ∈ l → y.2.2.2.2.2.1.length + y.2.2.2.2.2.2.length ≤ sTNodeS l
 | [], h => absurd h List.not_mem_nil
 | a :: l, h => by
  rw [sTNodeS]
  rcases List.mem_cons.1 h with rfl | h
  ·omega
  ·have := sTNodeS_mem h; omega
abbrev yTNode : Ty := .prod (.int .i64) (.prod (.int .i64) (.prod (.int .i64) (.prod (.int .i64) (.prod (.int .i64) (.prod (.sl 0 (.int .u64)) (.sl 0 (.int .i64)))))))
theorem szTNodeS_gd {l : List tTNode} (h : Gd (.sl 0 yTNode) l) : ∀ y : tTNode, y ∈ l → y.2.2.2.2.2.1.length ≤ 9223372036854775807 ∧ y.2.2.2.2.2.2.length ≤ 9223372036854775807 := fun y hy => ⟨(h.2 y hy).2.2.2.2.2.1.1, (h.2 y hy).2.2.2.2.2.2.1⟩
theorem laws_szTNodeS_lp {l : List tTNode} (hl : l.length ≤ 9223372036854775807) : ∀ (ys : List tTNode) (x left : Int), l.drop x.toNat = ys → 0 ≤ x → 0 ≤ left → left ≤ 1099511627776 → (∀ y ∈ ys, y.2.2.2.2.2.1.length ≤ 9223372036854775807 ∧ y.2.2.2.2.2.2.length ≤ 9223372036854775807) → ∀ (Kx : Nat → Int → Prop),
  (Ev (fun n => laws_szTNodeS.l5 n l left x (Kx n) (Kx n)) ↔ Ev (fun n => Kx n (szr left (sTNodeS ys))))
 | [], x, left, h, h0, h1, h2, hy, Kx => by
  have := drop_nil h h0
  refine Ev.suc.trans ?_
  simp (disch := omega) only [laws_szTNodeS.l5, laws_szTNodeS.l5.b, if_neg, decide_eq_true_eq, Ev.s1 Kx, sTNodeS]
  refine ev_arg ?_; unfold szr; split <;> omega
 | y :: ys, x, left, h, h0, h1, h2, hy, Kx => by
  obtain ⟨e1, e2, e3⟩ := drop_cons h h0
  have hy0 := hy y List.mem_cons_self
  refine Ev.suc.trans ?_
  simp (disch := first | assumption | exact hy0.1 | exact hy0.2 | exact hy0.2.1 | exact hy0.2.2 | exact hy0.2.2.1 | exact hy0.2.2.2 | omega) only [laws_szTNodeS.l5, laws_szTNodeS.l5.b, if_pos, decide_eq_true_eq, Ev.s1 Kx, grd_dec2, e2, laws_szTNode_ev, Ev.iteI, wrap64]
  split
  ·rename_i hs
   rw [sTNodeS, szr_back hs]
  ·rename_i hs
   rw [laws_szTNodeS_lp hl ys (x + 1) _ e3 (by omega) (by omega) (szr_le' (by omega) h2) (fun y hy' => hy y (List.mem_cons_of_mem _ hy')), sTNodeS, szr_two h1 hs, Ev.s1 Kx]
theorem laws_szTNodeS_ev {l : List tTNode} {left : Int} (h0 : -1 ≤ left) (h1 : left ≤ 1099511627776) (hl : l.length ≤ 9223372036854775807) (hy : ∀ y ∈ l, y.2.2.2.2.2.1.length ≤ 9223372036854775807 ∧ y.2.2.2.2.2.2.length ≤ 9223372036854775807) (R : Nat → Int → Prop) :
  Ev (fun n => laws_szTNodeS.c n l left (R n)) ↔ Ev (fun n => R n (szr left (l.length + sTNodeS l))) := by
 refine Ev.suc.trans ?_
 simp (disch := omega) only [laws_szTNodeS.c, laws_szTNodeS.w, wrap64, Ev.iteI, decide_eq_true_eq, Ev.s1 R]
 split
 ·refine ev_arg ?_; unfold szr; split <;> omega
 ·rw [laws_szTNodeS_lp hl l 0 _ rfl (by omega) (by omega) (by omega) hy, Ev.s1 R]
  refine ev_arg ?_; unfold szr; (repeat' split) <;> omega
theorem laws_szTerm_ev {a0 : List (Int × Int × Int × Int × Int × List (Int) × List (Int))} {left : Int} (h0 : -1 ≤ left) (h1 : left ≤ 1099511627776) (h2 : a0.length ≤ 9223372036854775807) (h3 : (∀ y : tTNode, y ∈ a0 → y.2.2.2.2.2.1.length ≤ 9223372036854775807 ∧ y.2.2.2.2.2.2.length ≤ 9223372036854775807)) (R : Nat → Int → Prop) :
  Ev (fun n => laws_szTerm.c n a0 left (R n)) ↔ Ev (fun n => R n (szr left ((a0.length + sTNodeS a0)))) := by
 refine Ev.suc.trans ?_
 simp (disch := first | assumption | omega | exact szr_m1 (by assumption) | exact szr_le' (by assumption) (by assumption)) only [laws_szTerm.c, laws_szTerm.w, laws_szTNodeS_ev, wrap64, Ev.iteI, decide_eq_true_eq, Ev.s1 R]
 unfold szr; (repeat' split) <;> first | rfl | (exfalso; omega) | exact ev_arg (by omega)
theorem laws_toDecl_ev {a0 : List UInt8} {a1 : Int} (h : a0.length ≤ 1048576) (R : Nat → List UInt8 → Int → Prop) :
  Ev (fun n => laws_toDecl.c n a0 a1 (R n)) ↔ Ev (fun n => R n a0 a1) := by
 refine Ev.suc.trans ?_
 simp (disch := omega) only [laws_toDecl.c, laws_toDecl.w, Ev.s2 R]
theorem laws_toDeclS_lp {l : List tDecl} (hl : l.length ≤ 1048576) : ∀ (ys : List tDecl) (x : Int) (o : List tDecl), l.drop x.toNat = ys → 0 ≤ x → o.length = l.length → (∀ y ∈ ys, y.1.length ≤ 1048576) → ∀ (Kx : Nat → List tDecl → Prop),
  (Ev (fun n => laws_toDeclS.l3 n l x o (Kx n)) ↔ Ev (fun n => Kx n (o.take x.toNat ++ ys)))
 | [], x, o, h, h0, ho, hy, Kx => by
  have := drop_nil h h0
  refine Ev.suc.trans ?_
  simp (disch := omega) only [laws_toDeclS.l3, laws_toDeclS.l3.b, if_neg, decide_eq_true_eq, Ev.s1 Kx]
  rw [List.take_of_length_le (by omega), List.append_nil]
 | y :: ys, x, o, h, h0, ho, hy, Kx => by
  obtain ⟨e1, e2, e3⟩ := drop_cons h h0
  have hy0 := hy y List.mem_cons_self
  refine Ev.suc.trans ?_
  simp (disch := omega) only [laws_toDeclS.l3, laws_toDeclS.l3.b, if_pos, decide_eq_true_eq, Ev.s1 Kx, grd_dec2, e2, wrap64, laws_toDecl_ev]
  rw [laws_toDeclS_lp hl ys (x + 1) _ e3 (by omega) (by simpa using ho) (fun y hy' => hy y (List.mem_cons_of_mem _ hy')), Ev.s1 Kx, take_set (by omega) (by omega), List.append_assoc]
  rfl
theorem laws_toDeclS_ev {l : List tDecl} (h : (l.length + sDeclS l) ≤ 1048576) (R : Nat → List tDecl → Prop) :
  Ev (fun n => laws_toDeclS.c n l (R n)) ↔ Ev (fun n => R n l) := by
 refine Ev.suc.trans ?_
 simp (disch := omega) only [laws_toDeclS.c, laws_toDeclS.w, grd_dec2, decide_true, Bool.and_true]
 rw [laws_toDeclS_lp (by omega) l 0 _ rfl (by omega) (by simp) (fun y hy => by have := sDeclS_mem hy; omega), Ev.s1 R]
 simp
theorem laws_toUint64S_lp {l : List Int} (hl : l.length ≤ 1048576) : ∀ (ys : List Int) (x : Int) (o : List Int), l.drop x.toNat = ys → 0 ≤ x → o.length = l.length → ∀ (Kx : Nat → List Int → Prop),
  (Ev (fun n => laws_toUint64S.l3 n l x o (Kx n)) ↔ Ev (fun n => Kx n (o.take x.toNat ++ ys)))
 | [], x, o, h, h0, ho, Kx => by
  have := drop_nil h h0
  refine Ev.suc.trans ?_
  simp (disch := omega) only [laws_toUint64S.l3, laws_toUint64S.l3.b, if_neg, decide_eq_true_eq, Ev.s1 Kx]
  rw [List.take_of_length_le (by omega), List.append_nil]
 | y :: ys, x, o, h, h0, ho, Kx => by
  obtain ⟨e1, e2, e3⟩ := drop_cons h h0
  refine Ev.suc.trans ?_
  simp (disch := omega) only [laws_toUint64S.l3, laws_toUint64S.l3.b, if_pos, decide_eq_true_eq, Ev.s1 Kx, grd_dec2, e2, wrap64]
  rw [laws_toUint64S_lp hl ys (x + 1) _ e3 (by omega) (by simpa using ho), Ev.s1 Kx, take_set (by omega) (by omega), List.append_assoc]
  rfl
theorem laws_toUint64S_ev {l : List Int} (h : l.length ≤ 1048576) (R : Nat → List Int → Prop) :
  Ev (fun n => laws_toUint64S.c n l (R n)) ↔ Ev (fun n => R n l) := by
 refine Ev.suc.trans ?_
 simp (disch := omega) only [laws_toUint64S.c, laws_toUint64S.w, grd_dec2, decide_true, Bool.and_true]
 rw [laws_toUint64S_lp (by omega) l 0 _ rfl (by omega) (by simp), Ev.s1 R]
 simp
theorem laws_toBits_ev {a0 : Int} {a1 : List Int} (h : a1.length ≤ 1048576) (R : Nat → Int → List Int → Prop) :
  Ev (fun n => laws_toBits.c n a0 a1 (R n)) ↔ Ev (fun n => R n a0 a1) := by
 refine Ev.suc.trans ?_
 simp (disch := omega) only [laws_toBits.c, laws_toBits.w, laws_toUint64S_ev, Ev.s2 R]
theorem laws_toInt64S_lp {l : List Int} (hl : l.length ≤ 1048576) : ∀ (ys : List Int) (x : Int) (o : List Int), l.drop x.toNat = ys → 0 ≤ x → o.length = l.length → ∀ (Kx : Nat → List Int → Prop),
  (Ev (fun n => laws_toInt64S.l3 n l x o (Kx n)) ↔ Ev (fun n => Kx n (o.take x.toNat ++ ys)))
 | [], x, o, h, h0, ho, Kx => by
  have := drop_nil h h0
  refine Ev.suc.trans ?_
  simp (disch := omega) only [laws_toInt64S.l3, laws_toInt64S.l3.b, if_neg, decide_eq_true_eq, Ev.s1 Kx]
  rw [List.take_of_length_le (by omega), List.append_nil]
 | y :: ys, x, o, h, h0, ho, Kx => by
  obtain ⟨e1, e2, e3⟩ := drop_cons h h0
  refine Ev.suc.trans ?_
  simp (disch := omega) only [laws_toInt64S.l3, laws_toInt64S.l3.b, if_pos, decide_eq_true_eq, Ev.s1 Kx, grd_dec2, e2, wrap64]
  rw [laws_toInt64S_lp hl ys (x + 1) _ e3 (by omega) (by simpa using ho), Ev.s1 Kx, take_set (by omega) (by omega), List.append_assoc]
  rfl
theorem laws_toInt64S_ev {l : List Int} (h : l.length ≤ 1048576) (R : Nat → List Int → Prop) :
  Ev (fun n => laws_toInt64S.c n l (R n)) ↔ Ev (fun n => R n l) := by
 refine Ev.suc.trans ?_
 simp (disch := omega) only [laws_toInt64S.c, laws_toInt64S.w, grd_dec2, decide_true, Bool.and_true]
 rw [laws_toInt64S_lp (by omega) l 0 _ rfl (by omega) (by simp), Ev.s1 R]
 simp
theorem laws_toTNode_ev {a0 : Int} {a1 : Int} {a2 : Int} {a3 : Int} {a4 : Int} {a5 : List Int} {a6 : List Int} (h : a5.length + a6.length ≤ 1048576) (R : Nat → Int → Int → Int → Int → Int → List Int → List Int → Prop) :
  Ev (fun n => laws_toTNode.c n a0 a1 a2 a3 a4 a5 a6 (R n)) ↔ Ev (fun n => R n a0 a1 a2 a3 a4 a5 a6) := by
 refine Ev.suc.trans ?_
 simp (disch := omega) only [laws_toTNode.c, laws_toTNode.w, laws_toBits_ev, laws_toInt64S_ev, Ev.s7 R]
theorem laws_toTNodeS_lp {l : List tTNode} (hl : l.length ≤ 1048576) : ∀ (ys : List tTNode) (x : Int) (o : List tTNode), l.drop x.toNat = ys → 0 ≤ x → o.length = l.length → (∀ y ∈ ys, y.2.2.2.2.2.1.length + y.2.2.2.2.2.2.length ≤ 1048576) → ∀ (Kx : Nat → List tTNode → Prop),
  (Ev (fun n => laws_toTNodeS.l3 n l x o (Kx n)) ↔ Ev (fun n => Kx n (o.take x.toNat ++ ys)))
 | [], x, o, h, h0, ho, hy, Kx => by
  have := drop_nil h h0
  refine Ev.suc.trans ?_
  simp (disch := omega) only [laws_toTNodeS.l3, laws_toTNodeS.l3.b, if_neg, decide_eq_true_eq, Ev.s1 Kx]
  rw [List.take_of_length_le (by omega), List.append_nil]
 | y :: ys, x, o, h, h0, ho, hy, Kx => by
  obtain ⟨e1, e2, e3⟩ := drop_cons h h0
  have hy0 := hy y List.mem_cons_self
  refine Ev.suc.trans ?_
  simp (disch := omega) only [laws_toTNodeS.l3, laws_toTNodeS.l3.b, if_pos, decide_eq_true_eq, Ev.s1 Kx, grd_dec2, e2, wrap64, laws_toTNode_ev]
  rw [laws_toTNodeS_lp hl ys (x + 1) _ e3 (by omega) (by simpa using ho) (fun y hy' => hy y (List.mem_cons_of_mem _ hy')), Ev.s1 Kx, take_set (by omega) (by omega), List.append_assoc]
  rfl
theorem laws_toTNodeS_ev {l : List tTNode} (h : (l.length + sTNodeS l) ≤ 1048576) (R : Nat → List tTNode → Prop) :
  Ev (fun n => laws_toTNodeS.c n l (R n)) ↔ Ev (fun n => R n l) := by
 refine Ev.suc.trans ?_
 simp (disch := omega) only [laws_toTNodeS.c, laws_toTNodeS.w, grd_dec2, decide_true, Bool.and_true]
 rw [laws_toTNodeS_lp (by omega) l 0 _ rfl (by omega) (by simp) (fun y hy => by have := sTNodeS_mem hy; omega), Ev.s1 R]
 simp
theorem laws_toTerm_ev {a0 : List (Int × Int × Int × Int × Int × List (Int) × List (Int))} (h : (a0.length + sTNodeS a0) ≤ 1048576) (R : Nat → List (Int × Int × Int × Int × Int × List (Int) × List (Int)) → Prop) :
  Ev (fun n => laws_toTerm.c n a0 (R n)) ↔ Ev (fun n => R n a0) := by
 refine Ev.suc.trans ?_
 simp (disch := omega) only [laws_toTerm.c, laws_toTerm.w, laws_toTNodeS_ev, Ev.s1 R]
theorem laws_eqUint64S_lp {l l' : List Int} (hl : l.length ≤ 1099511627776) (hll : l.length = l'.length) : ∀ (ys ys' : List Int) (x : Int), l.drop x.toNat = ys → l'.drop x.toNat = ys' → 0 ≤ x → ∀ (Kx : Nat → Prop) (Kr : Nat → Bool → Prop),
  (Ev (fun n => laws_eqUint64S.l4 n l l' x (Kx n) (Kr n)) ↔ if ys = ys' then Ev Kx else Ev (fun n => Kr n false))
 | [], [], x, h, h', h0, Kx, Kr => by
  have := drop_nil h h0
  refine Ev.suc.trans ?_
  simp (disch := omega) only [laws_eqUint64S.l4, laws_eqUint64S.l4.b, if_neg, decide_eq_true_eq, Ev.s0 Kx, if_true]
 | [], y' :: ys', x, h, h', h0, Kx, Kr => by
  have := drop_nil h h0; have := (drop_cons h' h0).1; omega
 | y :: ys, [], x, h, h', h0, Kx, Kr => by
  have := drop_nil h' h0; have := (drop_cons h h0).1; omega
 | y :: ys, y' :: ys', x, h, h', h0, Kx, Kr => by
  obtain ⟨e1, e2, e3⟩ := drop_cons h h0
  obtain ⟨_, f2, f3⟩ := drop_cons h' h0
  refine Ev.suc.trans ?_
  simp (disch := first | assumption | exact hy0.1 | exact hy0.2 | exact hy0.2.1 | exact hy0.2.2 | exact hy0.2.2.1 | exact hy0.2.2.2 | omega) only [laws_eqUint64S.l4, laws_eqUint64S.l4.b, if_pos, decide_eq_true_eq, Ev.s0 Kx, Ev.s1 Kr, grd_dec2, e2, f2, wrap64, Ev.iteI, Bool.not_eq_true', decide_eq_false_iff_not]
  rw [laws_eqUint64S_lp hl hll ys ys' (x + 1) e3 f3 (by omega), Ev.s0 Kx, Ev.s1 Kr]
  simp only [List.cons.injEq, Prod.ext_iff]
  (repeat' split) <;> first | rfl | (exfalso; simp_all; done)
theorem laws_eqUint64S_ev {l l' : List Int} (hl : l.length ≤ 1099511627776) (R : Nat → Bool → Prop) :
  Ev (fun n => laws_eqUint64S.c n l l' (R n)) ↔ Ev (fun n => R n (decide (l = l'))) := by
 refine Ev.suc.trans ?_
 simp (disch := omega) only [laws_eqUint64S.c, laws_eqUint64S.w, Ev.iteI, Bool.not_eq_true', decide_eq_false_iff_not, Ev.s1 R]
 split
 ·rw [decide_eq_false]; intro e; subst e; omega
 ·rw [laws_eqUint64S_lp hl (by omega) l l' 0 rfl rfl (by omega), Ev.s1 R, Ev.s1 R]
  split
  ·rw [decide_eq_true ‹_›]
  ·rw [decide_eq_false ‹_›]
theorem laws_eqBits_ev {a0 b0 : Int} {a1 b1 : List Int} (h0 : a1.length ≤ 1099511627776) (R : Nat → Bool → Prop) :
  Ev (fun n => laws_eqBits.c n a0 a1 b0 b1 (R n)) ↔ Ev (fun n => R n (decide (a0 = b0 ∧ a1 = b1))) := by
 refine Ev.suc.trans ?_
 simp (disch := first | assumption | omega) only [laws_eqBits.c, laws_eqBits.w, laws_eqUint64S_ev, Ev.iteI, Bool.not_eq_true', decide_eq_false_iff_not, beq_eq_false_iff_ne, ne_eq, Ev.s1 R]
 (repeat' split) <;> first | (rw [decide_eq_false]; simp_all; done) | (rw [decide_eq_true]; simp_all; done)
theorem laws_eqDecl_ev {a0 b0 : List UInt8} {a1 b1 : Int} (R : Nat → Bool → Prop) :
  Ev (fun n => laws_eqDecl.c n a0 a1 b0 b1 (R n)) ↔ Ev (fun n => R n (decide (a0 = b0 ∧ a1 = b1))) := by
 refine Ev.suc.trans ?_
 simp (disch := first | assumption | omega) only [laws_eqDecl.c, laws_eqDecl.w, Ev.iteI, Bool.not_eq_true', decide_eq_false_iff_not, beq_eq_false_iff_ne, ne_eq, Ev.s1 R]
 (repeat' split) <;> first | (rw [decide_eq_false]; simp_all; done) | (rw [decide_eq_true]; simp_all; done)
theorem laws_eqDeclS_lp {l l' : List tDecl} (hl : l.length ≤ 1099511627776) (hll : l.length = l'.length) : ∀ (ys ys' : List tDecl) (x : Int), l.drop x.toNat = ys → l'.drop x.toNat = ys' → 0 ≤ x → ∀ (Kx : Nat → Prop) (Kr : Nat → Bool → Prop),
  (Ev (fun n => laws_eqDeclS.l4 n l l' x (Kx n) (Kr n)) ↔ if ys = ys' then Ev Kx else Ev (fun n => Kr n false))
 | [], [], x, h, h', h0, Kx, Kr => by
  have := drop_nil h h0
  refine Ev.suc.trans ?_
  simp (disch := omega) only [laws_eqDeclS.l4, laws_eqDeclS.l4.b, if_neg, decide_eq_true_eq, Ev.s0 Kx, if_true]
 | [], y' :: ys', x, h, h', h0, Kx, Kr => by
  have := drop_nil h h0; have := (drop_cons h' h0).1; omega
 | y :: ys, [], x, h, h', h0, Kx, Kr => by
  have := drop_nil h' h0; have := (drop_cons h h0).1; omega
 | y :: ys, y' :: ys', x, h, h', h0, Kx, Kr => by
  obtain ⟨e1, e2, e3⟩ := drop_cons h h0
  obtain ⟨_, f2, f3⟩ := drop_cons h' h0
  refine Ev.suc.trans ?_
  simp (disch := first | assumption | exact hy0.1 | exact hy0.2 | exact hy0.2.1 | exact hy0.2.2 | exact hy0.2.2.1 | exact hy0.2.2.2 | omega) only [laws_eqDeclS.l4, laws_eqDeclS.l4.b, if_pos, decide_eq_true_eq, Ev.s0 Kx, Ev.s1 Kr, grd_dec2, e2, f2, wrap64, laws_eqDecl_ev, Ev.iteI, Bool.not_eq_true', decide_eq_false_iff_not]
  rw [laws_eqDeclS_lp hl hll ys ys' (x + 1) e3 f3 (by omega), Ev.s0 Kx, Ev.s1 Kr]
  simp only [List.cons.injEq, Prod.ext_iff]
  (repeat' split) <;> first | rfl | (exfalso; simp_all; done)
theorem laws_eqDeclS_ev {l l' : List tDecl} (hl : l.length ≤ 1099511627776) (R : Nat → Bool → Prop) :
  Ev (fun n => laws_eqDeclS.c n l l' (R n)) ↔ Ev (fun n => R n (decide (l = l'))) := by
 refine Ev.suc.trans ?_
 simp (disch := omega) only [laws_eqDeclS.c, laws_eqDeclS.w, Ev.iteI, Bool.not_eq_true', decide_eq_false_iff_not, Ev.s1 R]
 split
 ·rw [decide_eq_false]; intro e; subst e; omega
 ·rw [laws_eqDeclS_lp hl (by omega) l l' 0 rfl rfl (by omega), Ev.s1 R, Ev.s1 R]
  split
  ·rw [decide_eq_true ‹_›]
  ·rw [decide_eq_false ‹_›]
theorem laws_eqInt64S_lp {l l' : List Int} (hl : l.length ≤ 1099511627776) (hll : l.length = l'.length) : ∀ (ys ys' : List Int) (x : Int), l.drop x.toNat = ys → l'.drop x.toNat = ys' → 0 ≤ x → ∀ (Kx : Nat → Prop) (Kr : Nat → Bool → Prop),
  (Ev (fun n => laws_eqInt64S.l4 n l l' x (Kx n) (Kr n)) ↔ if ys = ys' then Ev Kx else Ev (fun n => Kr n false))
 | [], [], x, h, h', h0, Kx, Kr => by
  have := drop_nil h h0
  refine Ev.suc.trans ?_
  simp (disch := omega) only [laws_eqInt64S.l4, laws_eqInt64S.l4.b, if_neg, decide_eq_true_eq, Ev.s0 Kx, if_true]
 | [], y' :: ys', x, h, h', h0, Kx, Kr => by
  have := drop_nil h h0; have := (drop_cons h' h0).1; omega
 | y :: ys, [], x, h, h', h0, Kx, Kr => by
  have := drop_nil h' h0; have := (drop_cons h h0).1; omega
 | y :: ys, y' :: ys', x, h, h', h0, Kx, Kr => by
  obtain ⟨e1, e2, e3⟩ := drop_cons h h0
  obtain ⟨_, f2, f3⟩ := drop_cons h' h0
  refine Ev.suc.trans ?_
  simp (disch := first | assumption | exact hy0.1 | exact hy0.2 | exact hy0.2.1 | exact hy0.2.2 | exact hy0.2.2.1 | exact hy0.2.2.2 | omega) only [laws_eqInt64S.l4, laws_eqInt64S.l4.b, if_pos, decide_eq_true_eq, Ev.s0 Kx, Ev.s1 Kr, grd_dec2, e2, f2, wrap64, Ev.iteI, Bool.not_eq_true', decide_eq_false_iff_not]
  rw [laws_eqInt64S_lp hl hll ys ys' (x + 1) e3 f3 (by omega), Ev.s0 Kx, Ev.s1 Kr]
  simp only [List.cons.injEq, Prod.ext_iff]
  (repeat' split) <;> first | rfl | (exfalso; simp_all; done)
theorem laws_eqInt64S_ev {l l' : List Int} (hl : l.length ≤ 1099511627776) (R : Nat → Bool → Prop) :
  Ev (fun n => laws_eqInt64S.c n l l' (R n)) ↔ Ev (fun n => R n (decide (l = l'))) := by
 refine Ev.suc.trans ?_
 simp (disch := omega) only [laws_eqInt64S.c, laws_eqInt64S.w, Ev.iteI, Bool.not_eq_true', decide_eq_false_iff_not, Ev.s1 R]
 split
 ·rw [decide_eq_false]; intro e; subst e; omega
 ·rw [laws_eqInt64S_lp hl (by omega) l l' 0 rfl rfl (by omega), Ev.s1 R, Ev.s1 R]
  split
  ·rw [decide_eq_true ‹_›]
  ·rw [decide_eq_false ‹_›]
theorem laws_eqTNode_ev {a0 b0 : Int} {a1 b1 : Int} {a2 b2 : Int} {a3 b3 : Int} {a4 b4 : Int} {a5 b5 : List Int} {a6 b6 : List Int} (h0 : a5.length ≤ 1099511627776) (h1 : a6.length ≤ 1099511627776) (R : Nat → Bool → Prop) :
  Ev (fun n => laws_eqTNode.c n a0 a1 a2 a3 a4 a5 a6 b0 b1 b2 b3 b4 b5 b6 (R n)) ↔ Ev (fun n => R n (decide (a0 = b0 ∧ a1 = b1 ∧ a2 = b2 ∧ a3 = b3 ∧ a4 = b4 ∧ a5 = b5 ∧ a6 = b6))) := by
 refine Ev.suc.trans ?_
 simp (disch := first | assumption | omega) only [laws_eqTNode.c, laws_eqTNode.w, laws_eqBits_ev, laws_eqInt64S_ev, Ev.iteI, Bool.not_eq_true', decide_eq_false_iff_not, beq_eq_false_iff_ne, ne_eq, Ev.s1 R]
 (repeat' split) <;> first | (rw [decide_eq_false]; simp_all; done) | (rw [decide_eq_true]; simp_all; done)
theorem laws_eqTNodeS_lp {l l' : List tTNode} (hl : l.length ≤ 1099511627776) (hll : l.length = l'.length) : ∀ (ys ys' : List tTNode) (x : Int), l.drop x.toNat = ys → l'.drop x.toNat = ys' → 0 ≤ x → (∀ y ∈ ys, y.2.2.2.2.2.1.length ≤ 1099511627776 ∧ y.2.2.2.2.2.2.length ≤ 1099511627776) → ∀ (Kx : Nat → Prop) (Kr : Nat → Bool → Prop),
  (Ev (fun n => laws_eqTNodeS.l4 n l l' x (Kx n) (Kr n)) ↔ if ys = ys' then Ev Kx else Ev (fun n => Kr n false))
 | [], [], x, h, h', h0, hy, Kx, Kr => by
  have := drop_nil h h0
  refine Ev.suc.trans ?_
  simp (disch := omega) only [laws_eqTNodeS.l4, laws_eqTNodeS.l4.b, if_neg, decide_eq_true_eq, Ev.s0 Kx, if_true]
 | [], y' :: ys', x, h, h', h0, hy, Kx, Kr => by
  have := drop_nil h h0; have := (drop_cons h' h0).1; omega
 | y :: ys, [], x, h, h', h0, hy, Kx, Kr => by
  have := drop_nil h' h0; have := (drop_cons h h0).1; omega
 | y :: ys, y' :: ys', x, h, h', h0, hy, Kx, Kr => by
  obtain ⟨e1, e2, e3⟩ := drop_cons h h0
  obtain ⟨_, f2, f3⟩ := drop_cons h' h0
  have hy0 := hy y List.mem_cons_self
  refine Ev.suc.trans ?_
  simp (disch := first | assumption | exact hy0.1 | exact hy0.2 | exact hy0.2.1 | exact hy0.2.2 | exact hy0.2.2.1 | exact hy0.2.2.2 | omega) only [laws_eqTNodeS.l4, laws_eqTNodeS.l4.b, if_pos, decide_eq_true_eq, Ev.s0 Kx, Ev.s1 Kr, grd_dec2, e2, f2, wrap64, laws_eqTNode_ev, Ev.iteI, Bool.not_eq_true', decide_eq_false_iff_not]
  rw [laws_eqTNodeS_lp hl hll ys ys' (x + 1) e3 f3 (by omega) (fun y hy' => hy y (List.mem_cons_of_mem _ hy')), Ev.s0 Kx, Ev.s1 Kr]
  simp only [List.cons.injEq, Prod.ext_iff]
  (repeat' split) <;> first | rfl | (exfalso; simp_all; done)
theorem laws_eqTNodeS_ev {l l' : List tTNode} (hl : l.length ≤ 1099511627776) (hy : ∀ y ∈ l, y.2.2.2.2.2.1.length ≤ 1099511627776 ∧ y.2.2.2.2.2.2.length ≤ 1099511627776) (R : Nat → Bool → Prop) :
  Ev (fun n => laws_eqTNodeS.c n l l' (R n)) ↔ Ev (fun n => R n (decide (l = l'))) := by
 refine Ev.suc.trans ?_
 simp (disch := omega) only [laws_eqTNodeS.c, laws_eqTNodeS.w, Ev.iteI, Bool.not_eq_true', decide_eq_false_iff_not, Ev.s1 R]
 split
 ·rw [decide_eq_false]; intro e; subst e; omega
 ·rw [laws_eqTNodeS_lp hl (by omega) l l' 0 rfl rfl (by omega) hy, Ev.s1 R, Ev.s1 R]
  split
  ·rw [decide_eq_true ‹_›]
  ·rw [decide_eq_false ‹_›]
theorem eqTNodeS_of {l : List tTNode} (h : (l.length + sTNodeS l) ≤ 1099511627776) : ∀ y : tTNode, y ∈ l → y.2.2.2.2.2.1.length ≤ 1099511627776 ∧ y.2.2.2.2.2.2.length ≤ 1099511627776 := by
 intro y hy
 have := sTNodeS_mem hy
 exact ⟨(by omega), (by omega)⟩
theorem laws_eqTerm_ev {a0 b0 : List (Int × Int × Int × Int × Int × List (Int) × List (Int))} (h0 : a0.length ≤ 1099511627776) (h1 : (∀ y : tTNode, y ∈ a0 → y.2.2.2.2.2.1.length ≤ 1099511627776 ∧ y.2.2.2.2.2.2.length ≤ 1099511627776)) (R : Nat → Bool → Prop) :
  Ev (fun n => laws_eqTerm.c n a0 b0 (R n)) ↔ Ev (fun n => R n (decide (a0 = b0))) := by
 refine Ev.suc.trans ?_
 simp (disch := first | assumption | omega) only [laws_eqTerm.c, laws_eqTerm.w, laws_eqTNodeS_ev, Ev.iteI, Bool.not_eq_true', decide_eq_false_iff_not, beq_eq_false_iff_ne, ne_eq, Ev.s1 R]
 (repeat' split) <;> first | (rw [decide_eq_false]; simp_all; done) | (rw [decide_eq_true]; simp_all; done)
def mDeclS : List tDecl → Int → List tDecl
 | [], _ => []
 | y :: r, k => (mText k, k + 1) :: mDeclS r (k + 1 + 1)
def cDeclS : List tDecl → Nat
 | [] => 0
 | y :: r => (2) + cDeclS r
theorem laws_markDeclS_lp : ∀ (ys l : List tDecl) (k x : Int), l.drop x.toNat = ys → 0 ≤ x → l.length ≤ 1099511627776 → 0 < k → k + (cDeclS ys : Int) ≤ 4611686018427387904 → ∀ (Kx : Nat → Int → List tDecl → Prop),
  (Ev (fun n => laws_markDeclS.l2 n k x l (Kx n)) ↔ Ev (fun n => Kx n (k + (cDeclS ys : Int)) (l.take x.toNat ++ mDeclS ys k)))
 | [], l, k, x, h, h0, hl, hk, hb, Kx => by
  have := drop_nil h h0
  refine Ev.suc.trans ?_
  simp (disch := omega) only [laws_markDeclS.l2, laws_markDeclS.l2.b, if_neg, decide_eq_true_eq, Ev.s2 Kx]
  rw [List.take_of_length_le (by omega), mDeclS, List.append_nil]
  refine ev_arg2 ?_; simp [cDeclS]
 | y :: ys, l, k, x, h, h0, hl, hk, hb, Kx => by
  obtain ⟨e1, e2, e3⟩ := drop_cons h h0
  simp only [List.length_cons, cDeclS] at hb
  refine Ev.suc.trans ?_
  simp (disch := first | assumption | exact hy0.1 | exact hy0.2 | exact hy0.2.1 | exact hy0.2.2 | exact hy0.2.2.1 | exact hy0.2.2.2 | omega) only [laws_markDeclS.l2, laws_markDeclS.l2.b, if_pos, decide_eq_true_eq, Ev.s2 Kx, grd_dec2, wrap64, wrapU, rd_set, List.length_set, List.set_set, e2, markText_ev]
  rw [laws_markDeclS_lp ys _ _ (x + 1) (drop_set e3 (by omega)) (by omega) (by simpa using hl) (by omega) (by omega), Ev.s2 Kx, take_set (by omega) (by omega), List.append_assoc, mDeclS]
  simp only [List.length_cons, cDeclS, List.singleton_append]
  exact ev_arg3 (by omega) (by congr 2 <;> first | rfl | omega | (congr 1; omega) | skip)
theorem laws_markDeclS_ev {l : List tDecl} {k : Int} (hl : l.length ≤ 1099511627776) (hk : 0 < k) (hb : k + (cDeclS l : Int) ≤ 4611686018427387904) (R : Nat → Int → List tDecl → Prop) :
  Ev (fun n => laws_markDeclS.c n l k (R n)) ↔ Ev (fun n => R n (k + (cDeclS l : Int)) (mDeclS l k)) := by
 refine Ev.suc.trans ?_
 simp only [laws_markDeclS.c, laws_markDeclS.w]
 rw [laws_markDeclS_lp l l k 0 rfl (by omega) hl hk hb, Ev.s2 R]
 rfl
theorem cDeclS_le : ∀ {l : List tDecl}, cDeclS l ≤ 8 * (l.length + sDeclS l)
 | [] => by simp [cDeclS]
 | y :: r => by
  have := cDeclS_le (l := r)
  simp only [cDeclS, sDeclS, List.length_cons]; omega
def mUint64S : List Int → Int → List Int
 | [], _ => []
 | y :: r, k => (k) :: mUint64S r (k + 1)
theorem laws_markUint64S_lp : ∀ (ys l : List Int) (k x : Int), l.drop x.toNat = ys → 0 ≤ x → l.length ≤ 1099511627776 → 0 < k → k + (ys.length : Int) ≤ 4611686018427387904 → ∀ (Kx : Nat → Int → List Int → Prop),
  (Ev (fun n => laws_markUint64S.l2 n k x l (Kx n)) ↔ Ev (fun n => Kx n (k + (ys.length : Int)) (l.take x.toNat ++ mUint64S ys k)))
 | [], l, k, x, h, h0, hl, hk, hb, Kx => by
  have := drop_nil h h0
  refine Ev.suc.trans ?_
  simp (disch := omega) only [laws_markUint64S.l2, laws_markUint64S.l2.b, if_neg, decide_eq_true_eq, Ev.s2 Kx]
  rw [List.take_of_length_le (by omega), mUint64S, List.append_nil]
  refine ev_arg2 ?_; simp
 | y :: ys, l, k, x, h, h0, hl, hk, hb, Kx => by
  obtain ⟨e1, e2, e3⟩ := drop_cons h h0
  simp only [List.length_cons] at hb
  refine Ev.suc.trans ?_
  simp (disch := first | assumption | exact hy0.1 | exact hy0.2 | exact hy0.2.1 | exact hy0.2.2 | exact hy0.2.2.1 | exact hy0.2.2.2 | omega) only [laws_markUint64S.l2, laws_markUint64S.l2.b, if_pos, decide_eq_true_eq, Ev.s2 Kx, grd_dec2, wrap64, wrapU, rd_set, List.length_set, List.set_set, e2]
  rw [laws_markUint64S_lp ys _ _ (x + 1) (drop_set e3 (by omega)) (by omega) (by simpa using hl) (by omega) (by omega), Ev.s2 Kx, take_set (by omega) (by omega), List.append_assoc, mUint64S]
  simp only [List.length_cons, List.singleton_append]
  exact ev_arg3 (by omega) (by congr 2 <;> first | rfl | omega | (congr 1; omega) | skip)
theorem laws_markUint64S_ev {l : List Int} {k : Int} (hl : l.length ≤ 1099511627776) (hk : 0 < k) (hb : k + (l.length : Int) ≤ 4611686018427387904) (R : Nat → Int → List Int → Prop) :
  Ev (fun n => laws_markUint64S.c n l k (R n)) ↔ Ev (fun n => R n (k + (l.length : Int)) (mUint64S l k)) := by
 refine Ev.suc.trans ?_
 simp only [laws_markUint64S.c, laws_markUint64S.w]
 rw [laws_markUint64S_lp l l k 0 rfl (by omega) hl hk hb, Ev.s2 R]
 rfl
theorem mUint64S_len : ∀ {l : List Int} {k : Int}, (mUint64S l k).length = l.length
 | [], _ => rfl
 | y :: l, k => by simp [mUint64S, mUint64S_len]
def mInt64S : List Int → Int → List Int
 | [], _ => []
 | y :: r, k => (k) :: mInt64S r (k + 1)
theorem laws_markInt64S_lp : ∀ (ys l : List Int) (k x : Int), l.drop x.toNat = ys → 0 ≤ x → l.length ≤ 1099511627776 → 0 < k → k + (ys.length : Int) ≤ 4611686018427387904 → ∀ (Kx : Nat → Int → List Int → Prop),
  (Ev (fun n => laws_markInt64S.l2 n k x l (Kx n)) ↔ Ev (fun n => Kx n (k + (ys.length : Int)) (l.take x.toNat ++ mInt64S ys k)))
 | [], l, k, x, h, h0, hl, hk, hb, Kx => by
  have := drop_nil h h0
  refine Ev.suc.trans ?_
  simp (disch := omega) only [laws_markInt64S.l2, laws_markInt64S.l2.b, if_neg, decide_eq_true_eq, Ev.s2 Kx]
  rw [List.take_of_length_le (by omega), mInt64S, List.append_nil]
  refine ev_arg2 ?_; simp
 | y :: ys, l, k, x, h, h0, hl, hk, hb, Kx => by
  obtain ⟨e1, e2, e3⟩ := drop_cons h h0
  simp only [List.length_cons] at hb
  refine Ev.suc.trans ?_
  simp (disch := first | assumption | exact hy0.1 | exact hy0.2 | exact hy0.2.1 | exact hy0.2.2 | exact hy0.2.2.1 | exact hy0.2.2.2 | omega) only [laws_markInt64S.l2, laws_markInt64S.l2.b, if_pos, decide_eq_true_eq, Ev.s2 Kx, grd_dec2, wrap64, wrapU, rd_set, List.length_set, List.set_set, e2]
  rw [laws_markInt64S_lp ys _ _ (x + 1) (drop_set e3 (by omega)) (by omega) (by simpa using hl) (by omega) (by omega), Ev.s2 Kx, take_set (by omega) (by omega), List.append_assoc, mInt64S]
  simp only [List.length_cons, List.singleton_append]
  exact ev_arg3 (by omega) (by congr 2 <;> first | rfl | omega | (congr 1; omega) | skip)
theorem laws_markInt64S_ev {l : List Int} {k : Int} (hl : l.length ≤ 1099511627776) (hk : 0 < k) (hb : k + (l.length : Int) ≤ 4611686018427387904) (R : Nat → Int → List Int → Prop) :
  Ev (fun n => laws_markInt64S.c n l k (R n)) ↔ Ev (fun n => R n (k + (l.length : Int)) (mInt64S l k)) := by
 refine Ev.suc.trans ?_
 simp only [laws_markInt64S.c, laws_markInt64S.w]
 rw [laws_markInt64S_lp l l k 0 rfl (by omega) hl hk hb, Ev.s2 R]
 rfl
def mTNodeS : List tTNode → Int → List tTNode
 | [], _ => []
 | y :: r, k => (k, k + 1, k + 1 + 1, k + 1 + 1 + 1, k + 1 + 1 + 1 + 1, mUint64S y.2.2.2.2.2.1 (k + 1 + 1 + 1 + 1 + 1), mInt64S y.2.2.2.2.2.2 (k + 1 + 1 + 1 + 1 + 1 + ((y.2.2.2.2.2.1.length : Nat) : Int))) :: mTNodeS r (k + 1 + 1 + 1 + 1 + 1 + ((y.2.2.2.2.2.1.length : Nat) : Int) + ((y.2.2.2.2.2.2.length : Nat) : Int))
def cTNodeS : List tTNode → Nat
 | [] => 0
 | y :: r => (5 + y.2.2.2.2.2.1.length + y.2.2.2.2.2.2.length) + cTNodeS r
theorem laws_markTNodeS_lp : ∀ (ys l : List tTNode) (k x : Int), l.drop x.toNat = ys → 0 ≤ x → l.length ≤ 1099511627776 → 0 < k → k + (cTNodeS ys : Int) ≤ 4611686018427387904 → (∀ y ∈ ys, y.2.2.2.2.2.1.length ≤ 1099511627776 ∧ y.2.2.2.2.2.2.length ≤ 1099511627776) → ∀ (Kx : Nat → Int → List tTNode → Prop),
  (Ev (fun n => laws_markTNodeS.l2 n k x l (Kx n)) ↔ Ev (fun n => Kx n (k + (cTNodeS ys : Int)) (l.take x.toNat ++ mTNodeS ys k)))
 | [], l, k, x, h, h0, hl, hk, hb, hy, Kx => by
  have := drop_nil h h0
  refine Ev.suc.trans ?_
  simp (disch := omega) only [laws_markTNodeS.l2, laws_markTNodeS.l2.b, if_neg, decide_eq_true_eq, Ev.s2 Kx]
  rw [List.take_of_length_le (by omega), mTNodeS, List.append_nil]
  refine ev_arg2 ?_; simp [cTNodeS]
 | y :: ys, l, k, x, h, h0, hl, hk, hb, hy, Kx => by
  obtain ⟨e1, e2, e3⟩ := drop_cons h h0
  have hy0 := hy y List.mem_cons_self
  simp only [List.length_cons, cTNodeS] at hb
  refine Ev.suc.trans ?_
  simp (disch := first | assumption | exact hy0.1 | exact hy0.2 | exact hy0.2.1 | exact hy0.2.2 | exact hy0.2.2.1 | exact hy0.2.2.2 | omega) only [laws_markTNodeS.l2, laws_markTNodeS.l2.b, if_pos, decide_eq_true_eq, Ev.s2 Kx, grd_dec2, wrap64, wrapU, rd_set, List.length_set, List.set_set, e2, laws_markInt64S_ev, laws_markUint64S_ev]
  rw [laws_markTNodeS_lp ys _ _ (x + 1) (drop_set e3 (by omega)) (by omega) (by simpa using hl) (by omega) (by omega) (fun y hy' => hy y (List.mem_cons_of_mem _ hy')), Ev.s2 Kx, take_set (by omega) (by omega), List.append_assoc, mTNodeS]
  simp only [List.length_cons, cTNodeS, List.singleton_append]
  exact ev_arg3 (by omega) (by congr 2 <;> first | rfl | omega | (congr 1; omega) | skip)
theorem laws_markTNodeS_ev {l : List tTNode} {k : Int} (hl : l.length ≤ 1099511627776) (hk : 0 < k) (hb : k + (cTNodeS l : Int) ≤ 4611686018427387904) (hy : ∀ y ∈ l, y.2.2.2.2.2.1.length ≤ 1099511627776 ∧ y.2.2.2.2.2.2.length ≤ 1099511627776) (R : Nat → Int → List tTNode → Prop) :
  Ev (fun n => laws_markTNodeS.c n l k (R n)) ↔ Ev (fun n => R n (k + (cTNodeS l : Int)) (mTNodeS l k)) := by
 refine Ev.suc.trans ?_
 simp only [laws_markTNodeS.c, laws_markTNodeS.w]
 rw [laws_markTNodeS_lp l l k 0 rfl (by omega) hl hk hb hy, Ev.s2 R]
 rfl
theorem markTNodeS_of {l : List tTNode} (h : (l.length + sTNodeS l) ≤ 1099511627776) : ∀ y : tTNode, y ∈ l → y.2.2.2.2.2.1.length ≤ 1099511627776 ∧ y.2.2.2.2.2.2.length ≤ 1099511627776 := by
 intro y hy
 have := sTNodeS_mem hy
 exact ⟨(by omega), (by omega)⟩
theorem cTNodeS_le : ∀ {l : List tTNode}, cTNodeS l ≤ 8 * (l.length + sTNodeS l)
 | [] => by simp [cTNodeS]
 | y :: r => by
  have := cTNodeS_le (l := r)
  simp only [cTNodeS, sTNodeS, List.length_cons]; omega
theorem laws_markTerm_ev {a0 : List (Int × Int × Int × Int × Int × List (Int) × List (Int))} {k : Int} (hk : 0 < k) (hb : k + (((cTNodeS a0) : Nat) : Int) ≤ 4611686018427387904) (g0 : a0.length ≤ 1099511627776) (g1 : (∀ y : tTNode, y ∈ a0 → y.2.2.2.2.2.1.length ≤ 1099511627776 ∧ y.2.2.2.2.2.2.length ≤ 1099511627776)) (R : Nat → Int → List (Int × Int × Int × Int × Int × List (Int) × List (Int)) → Prop) :
  Ev (fun n => laws_markTerm.c n a0 k (R n)) ↔ Ev (fun n => R n (k + (((cTNodeS a0) : Nat) : Int)) (mTNodeS a0 k)) := by
 refine Ev.suc.trans ?_
 simp (disch := first | assumption | omega) only [laws_markTerm.c, laws_markTerm.w, laws_markTNodeS_ev, Ev.s2 R]
theorem laws_heldUint64S_lp {l : List Int} (hl : l.length ≤ 1099511627776) : ∀ (ys : List Int) (k x : Int), l.drop x.toNat = mUint64S ys k → 0 ≤ x → 0 < k → k + (ys.length : Int) ≤ 4611686018427387904 → ∀ (Kx Kr : Nat → Int → Prop),
  (Ev (fun n => laws_heldUint64S.l2 n l k x (Kx n) (Kr n)) ↔ Ev (fun n => Kx n (k + (ys.length : Int))))
 | [], k, x, h, h0, hk, hb, Kx, Kr => by
  have := drop_nil h h0
  refine Ev.suc.trans ?_
  simp (disch := omega) only [laws_heldUint64S.l2, laws_heldUint64S.l2.b, if_neg, decide_eq_true_eq, Ev.s1 Kx]
  refine ev_arg ?_; simp
 | y :: ys, k, x, h, h0, hk, hb, Kx, Kr => by
  obtain ⟨e1, e2, e3⟩ := drop_cons h h0
  simp only [List.length_cons] at hb
  refine Ev.suc.trans ?_
  simp (disch := first | assumption | exact hy0.1 | exact hy0.2 | exact hy0.2.1 | exact hy0.2.2 | exact hy0.2.2.1 | exact hy0.2.2.2 | omega) only [laws_heldUint64S.l2, laws_heldUint64S.l2.b, if_pos, if_neg, decide_eq_true_eq, Bool.not_eq_true', decide_eq_false_iff_not, not_true, if_false, Ev.s1 Kx, grd_dec2, wrap64, wrapU, e2, beq_self_eq_true, Bool.true_eq_false, Bool.not_true, Bool.false_eq_true, decide_true, decide_not, Ev.iteI]
  rw [laws_heldUint64S_lp hl ys _ (x + 1) (by first | exact e3 | (rw [e3]; congr 1 <;> omega)) (by omega) (by omega) (by omega), Ev.s1 Kx]
  refine ev_arg ?_; simp only [List.length_cons]; try omega
theorem laws_heldUint64S_ev {l : List Int} {k : Int} (hl : l.length ≤ 1099511627776) (hk : 0 < k) (hb : k + (l.length : Int) ≤ 4611686018427387904) (R : Nat → Int → Prop) :
  Ev (fun n => laws_heldUint64S.c n (mUint64S l k) k (R n)) ↔ Ev (fun n => R n (k + (l.length : Int))) := by
 refine Ev.suc.trans ?_
 simp only [laws_heldUint64S.c, laws_heldUint64S.w]
 rw [laws_heldUint64S_lp (by rw [mUint64S_len]; exact hl) l k 0 rfl (by omega) hk hb, Ev.s1 R]
theorem laws_eqSeg_ev {a0 b0 : Int} {a1 b1 : Int} {a2 b2 : Int} {a3 b3 : Int} {a4 b4 : List Int} (h0 : a4.length ≤ 1099511627776) (R : Nat → Bool → Prop) :
  Ev (fun n => laws_eqSeg.c n a0 a1 a2 a3 a4 b0 b1 b2 b3 b4 (R n)) ↔ Ev (fun n => R n (decide (a0 = b0 ∧ a1 = b1 ∧ a2 = b2 ∧ a3 = b3 ∧ a4 = b4))) := by
 refine Ev.suc.trans ?_
 simp (disch := first | assumption | omega) only [laws_eqSeg.c, laws_eqSeg.w, laws_eqBits_ev, Ev.iteI, Bool.not_eq_true', decide_eq_false_iff_not, beq_eq_false_iff_ne, ne_eq, Ev.s1 R]
 (repeat' split) <;> first | (rw [decide_eq_false]; simp_all; done) | (rw [decide_eq_true]; simp_all; done)
theorem laws_eqSegS_lp {l l' : List tSeg} (hl : l.length ≤ 1099511627776) (hll : l.length = l'.length) : ∀ (ys ys' : List tSeg) (x : Int), l.drop x.toNat = ys → l'.drop x.toNat = ys' → 0 ≤ x → (∀ y ∈ ys, y.2.2.2.2.length ≤ 1099511627776) → ∀ (Kx : Nat → Prop) (Kr : Nat → Bool → Prop),
  (Ev (fun n => laws_eqSegS.l4 n l l' x (Kx n) (Kr n)) ↔ if ys = ys' then Ev Kx else Ev (fun n => Kr n false))
 | [], [], x, h, h', h0, hy, Kx, Kr => by
  have := drop_nil h h0
  refine Ev.suc.trans ?_
  simp (disch := omega) only [laws_eqSegS.l4, laws_eqSegS.l4.b, if_neg, decide_eq_true_eq, Ev.s0 Kx, if_true]
 | [], y' :: ys', x, h, h', h0, hy, Kx, Kr => by
  have := drop_nil h h0; have := (drop_cons h' h0).1; omega
 | y :: ys, [], x, h, h', h0, hy, Kx, Kr => by
  have := drop_nil h' h0; have := (drop_cons h h0).1; omega
 | y :: ys, y' :: ys', x, h, h', h0, hy, Kx, Kr => by
  obtain ⟨e1, e2, e3⟩ := drop_cons h h0
  obtain ⟨_, f2, f3⟩ := drop_cons h' h0
  have hy0 := hy y List.mem_cons_self
  refine Ev.suc.trans ?_
  simp (disch := first | assumption | exact hy0.1 | exact hy0.2 | exact hy0.2.1 | exact hy0.2.2 | exact hy0.2.2.1 | exact hy0.2.2.2 | omega) only [laws_eqSegS.l4, laws_eqSegS.l4.b, if_pos, decide_eq_true_eq, Ev.s0 Kx, Ev.s1 Kr, grd_dec2, e2, f2, wrap64, laws_eqSeg_ev, Ev.iteI, Bool.not_eq_true', decide_eq_false_iff_not]
  rw [laws_eqSegS_lp hl hll ys ys' (x + 1) e3 f3 (by omega) (fun y hy' => hy y (List.mem_cons_of_mem _ hy')), Ev.s0 Kx, Ev.s1 Kr]
  simp only [List.cons.injEq, Prod.ext_iff]
  (repeat' split) <;> first | rfl | (exfalso; simp_all; done)
theorem laws_eqSegS_ev {l l' : List tSeg} (hl : l.length ≤ 1099511627776) (hy : ∀ y ∈ l, y.2.2.2.2.length ≤ 1099511627776) (R : Nat → Bool → Prop) :
  Ev (fun n => laws_eqSegS.c n l l' (R n)) ↔ Ev (fun n => R n (decide (l = l'))) := by
 refine Ev.suc.trans ?_
 simp (disch := omega) only [laws_eqSegS.c, laws_eqSegS.w, Ev.iteI, Bool.not_eq_true', decide_eq_false_iff_not, Ev.s1 R]
 split
 ·rw [decide_eq_false]; intro e; subst e; omega
 ·rw [laws_eqSegS_lp hl (by omega) l l' 0 rfl rfl (by omega) hy, Ev.s1 R, Ev.s1 R]
  split
  ·rw [decide_eq_true ‹_›]
  ·rw [decide_eq_false ‹_›]
def sSegS : List tSeg → Nat
 | [] => 0
 | y :: r => y.2.2.2.2.length + sSegS r
theorem sSegS_mem {y : tSeg} : ∀ {l : List tSeg}, y ∈ l → y.2.2.2.2.length ≤ sSegS l
 | [], h => absurd h List.not_mem_nil
 | a :: l, h => by
  rw [sSegS]
  rcases List.mem_cons.1 h with rfl | h
  ·omega
  ·have := sSegS_mem h; omega
theorem eqSegS_of {l : List tSeg} (h : (l.length + sSegS l) ≤ 1099511627776) : ∀ y : tSeg, y ∈ l → y.2.2.2.2.length ≤ 1099511627776 := by
 intro y hy
 have := sSegS_mem hy
 exact (by omega)
def mSegS : List tSeg → Int → List tSeg
 | [], _ => []
 | y :: r, k => (k, k + 1, k + 1 + 1, k + 1 + 1 + 1, mUint64S y.2.2.2.2 (k + 1 + 1 + 1 + 1)) :: mSegS r (k + 1 + 1 + 1 + 1 + ((y.2.2.2.2.length : Nat) : Int))
def cSegS : List tSeg → Nat
 | [] => 0
 | y :: r => (4 + y.2.2.2.2.length) + cSegS r
theorem laws_markSegS_lp : ∀ (ys l : List tSeg) (k x : Int), l.drop x.toNat = ys → 0 ≤ x → l.length ≤ 1099511627776 → 0 < k → k + (cSegS ys : Int) ≤ 4611686018427387904 → (∀ y ∈ ys, y.2.2.2.2.length ≤ 1099511627776) → ∀ (Kx : Nat → Int → List tSeg → Prop),
  (Ev (fun n => laws_markSegS.l2 n k x l (Kx n)) ↔ Ev (fun n => Kx n (k + (cSegS ys : Int)) (l.take x.toNat ++ mSegS ys k)))
 | [], l, k, x, h, h0, hl, hk, hb, hy, Kx => by
  have := drop_nil h h0
  refine Ev.suc.trans ?_
  simp (disch := omega) only [laws_markSegS.l2, laws_markSegS.l2.b, if_neg, decide_eq_true_eq, Ev.s2 Kx]
  rw [List.take_of_length_le (by omega), mSegS, List.append_nil]
  refine ev_arg2 ?_; simp [cSegS]
 | y :: ys, l, k, x, h, h0, hl, hk, hb, hy, Kx => by
  obtain ⟨e1, e2, e3⟩ := drop_cons h h0
  have hy0 := hy y List.mem_cons_self
  simp only [List.length_cons, cSegS] at hb
  refine Ev.suc.trans ?_
  simp (disch := first | assumption | exact hy0.1 | exact hy0.2 | exact hy0.2.1 | exact hy0.2.2 | exact hy0.2.2.1 | exact hy0.2.2.2 | omega) only [laws_markSegS.l2, laws_markSegS.l2.b, if_pos, decide_eq_true_eq, Ev.s2 Kx, grd_dec2, wrap64, wrapU, rd_set, List.length_set, List.set_set, e2, laws_markUint64S_ev]
  rw [laws_markSegS_lp ys _ _ (x + 1) (drop_set e3 (by omega)) (by omega) (by simpa using hl) (by omega) (by omega) (fun y hy' => hy y (List.mem_cons_of_mem _ hy')), Ev.s2 Kx, take_set (by omega) (by omega), List.append_assoc, mSegS]
  simp only [List.length_cons, cSegS, List.singleton_append]
  exact ev_arg3 (by omega) (by congr 2 <;> first | rfl | omega | (congr 1; omega) | skip)
theorem laws_markSegS_ev {l : List tSeg} {k : Int} (hl : l.length ≤ 1099511627776) (hk : 0 < k) (hb : k + (cSegS l : Int) ≤ 4611686018427387904) (hy : ∀ y ∈ l, y.2.2.2.2.length ≤ 1099511627776) (R : Nat → Int → List tSeg → Prop) :
  Ev (fun n => laws_markSegS.c n l k (R n)) ↔ Ev (fun n => R n (k + (cSegS l : Int)) (mSegS l k)) := by
 refine Ev.suc.trans ?_
 simp only [laws_markSegS.c, laws_markSegS.w]
 rw [laws_markSegS_lp l l k 0 rfl (by omega) hl hk hb hy, Ev.s2 R]
 rfl
theorem markSegS_of {l : List tSeg} (h : (l.length + sSegS l) ≤ 1099511627776) : ∀ y : tSeg, y ∈ l → y.2.2.2.2.length ≤ 1099511627776 := by
 intro y hy
 have := sSegS_mem hy
 exact (by omega)
theorem cSegS_le : ∀ {l : List tSeg}, cSegS l ≤ 8 * (l.length + sSegS l)
 | [] => by simp [cSegS]
 | y :: r => by
  have := cSegS_le (l := r)
  simp only [cSegS, sSegS, List.length_cons]; omega
theorem mSegS_len : ∀ {l : List tSeg} {k : Int}, (mSegS l k).length = l.length
 | [], _ => rfl
 | y :: l, k => by simp [mSegS, mSegS_len]
theorem laws_heldSegS_lp {l : List tSeg} (hl : l.length ≤ 1099511627776) : ∀ (ys : List tSeg) (k x : Int), l.drop x.toNat = mSegS ys k → 0 ≤ x → 0 < k → k + (cSegS ys : Int) ≤ 4611686018427387904 → (∀ y ∈ ys, y.2.2.2.2.length ≤ 1099511627776) → ∀ (Kx Kr : Nat → Int → Prop),
  (Ev (fun n => laws_heldSegS.l2 n l k x (Kx n) (Kr n)) ↔ Ev (fun n => Kx n (k + (cSegS ys : Int))))
 | [], k, x, h, h0, hk, hb, hy, Kx, Kr => by
  have := drop_nil h h0
  refine Ev.suc.trans ?_
  simp (disch := omega) only [laws_heldSegS.l2, laws_heldSegS.l2.b, if_neg, decide_eq_true_eq, Ev.s1 Kx]
  refine ev_arg ?_; simp [cSegS]
 | y :: ys, k, x, h, h0, hk, hb, hy, Kx, Kr => by
  obtain ⟨e1, e2, e3⟩ := drop_cons h h0
  have hy0 := hy y List.mem_cons_self
  simp only [List.length_cons, cSegS] at hb
  refine Ev.suc.trans ?_
  simp (disch := first | assumption | exact hy0.1 | exact hy0.2 | exact hy0.2.1 | exact hy0.2.2 | exact hy0.2.2.1 | exact hy0.2.2.2 | omega) only [laws_heldSegS.l2, laws_heldSegS.l2.b, if_pos, if_neg, decide_eq_true_eq, Bool.not_eq_true', decide_eq_false_iff_not, not_true, if_false, Ev.s1 Kx, grd_dec2, wrap64, wrapU, e2, laws_heldUint64S_ev, beq_self_eq_true, Bool.true_eq_false, Bool.not_true, Bool.false_eq_true, decide_true, decide_not, Ev.iteI]
  rw [laws_heldSegS_lp hl ys _ (x + 1) (by first | exact e3 | (rw [e3]; congr 1 <;> omega)) (by omega) (by omega) (by omega) (fun y hy' => hy y (List.mem_cons_of_mem _ hy')), Ev.s1 Kx]
  refine ev_arg ?_; simp only [List.length_cons, cSegS]; try omega
theorem laws_heldSegS_ev {l : List tSeg} {k : Int} (hl : l.length ≤ 1099511627776) (hk : 0 < k) (hb : k + (cSegS l : Int) ≤ 4611686018427387904) (hy : ∀ y ∈ l, y.2.2.2.2.length ≤ 1099511627776) (R : Nat → Int → Prop) :
  Ev (fun n => laws_heldSegS.c n (mSegS l k) k (R n)) ↔ Ev (fun n => R n (k + (cSegS l : Int))) := by
 refine Ev.suc.trans ?_
 simp only [laws_heldSegS.c, laws_heldSegS.w]
 rw [laws_heldSegS_lp (by rw [mSegS_len]; exact hl) l k 0 rfl (by omega) hk hb hy, Ev.s1 R]
end Go.Vsi
end

section
set_option linter.unusedVariables false
set_option linter.unusedSimpArgs false
set_option synthInstance.maxSize 4096
namespace Go.Vsi
theorem wd_of {l : List Int} (h : Gd (.sl 0 (.int .u64)) l) : Wd l := fun x hx => ⟨(h.2 x hx).1, (h.2 x hx).2⟩
theorem term_wd {t : List tTNode} (h : Gd (.sl 0 yTNode) t) (hz : t.length + sTNodeS t ≤ 1099511627776) : ∀ x : tTNode, x ∈ t → Wd x.2.2.2.2.2.1 ∧ x.2.2.2.2.2.2.length ≤ 1099511627776 :=
 fun x hx => ⟨wd_of (h.2 x hx).2.2.2.2.2.1, by have := sTNodeS_mem hx; omega⟩
end Go.Vsi
end

section
set_option linter.unusedVariables false
set_option linter.unusedSimpArgs false
set_option synthInstance.maxSize 4096
namespace Go.Vsi
theorem FormR.size {f : List tSeg} (h : FormR f) : f.length + sSegS f ≤ 1048576 := by
 have : ∀ {l : List tSeg}, (∀ s ∈ l, s.2.2.2.2.length ≤ 64) → sSegS l ≤ 64 * l.length := by
  intro l
  induction l with
  | nil => intro _; exact Nat.le_refl _
  | cons s l ih =>
   intro h
   have := ih fun t ht => h t (List.mem_cons_of_mem _ ht)
   have := h s List.mem_cons_self
   rw [sSegS, List.length_cons]; omega
 have := this h.words
 have := h.len
 omega
structure FlatIn (d : List tDecl) (t : List tTNode) : Prop where
 gd : Gd (.sl 0 yDecl) d
 gt : Gd (.sl 0 yTNode) t
 z : d.length + sDeclS d + (t.length + sTNodeS t) ≤ 1048576
theorem FlatIn.wt {d : List tDecl} {t : List tTNode} (h : FlatIn d t) : ∀ x : tTNode, x ∈ t → Wd x.2.2.2.2.2.1 ∧ x.2.2.2.2.2.2.length ≤ 1099511627776 := term_wd h.gt (by have := h.z; omega)
theorem FlatIn.impl {d : List tDecl} {t : List tTNode} (h : FlatIn d t) (R : Nat → List tSeg → Bool → Prop) :
  Ev (fun n => impl_Flatten.c n d t (R n)) ↔ Ev (fun n => R n (flattenOf d t).1 (flattenOf d t).2) :=
 flattenOf_ev (by have := h.z; omega) (fun x hx => (h.wt x hx).1) R
theorem FlatIn.spec {d : List tDecl} {t : List tTNode} (h : FlatIn d t) (R : Nat → List tSeg → Bool → Prop) :
  Ev (fun n => spec_Flatten.c n d t (R n)) ↔ Ev (fun n => R n (flattenOf d t).1 (flattenOf d t).2) :=
 flattenOfS_ev (by have := h.z; omega) h.wt R
theorem flatten_q23 {d : List tDecl} {t : List tTNode} (h : FlatIn d t) (K : Nat → Bool → Prop) :
  Ev (fun n => laws_FnExactFlatten.q23 n d (flattenOf d t).2 (flattenOf d t).1 (flattenOf d t).1 t (K n)) ↔ Ev (fun n => K n true) := by
 have hz := h.z
 have hf := (flattenOf_R (d := d) (t := t)).size
 have cl := cSegS_le (l := (flattenOf d t).1)
 have t1 := fun R => laws_toDeclS_ev (l := d) (by omega) R
 have t3 := fun R => laws_toTerm_ev (a0 := t) (by omega) R
 have s2 := fun R => h.impl R
 have qs := eqSegS_of (l := (flattenOf d t).1) (by omega)
 have ps := markSegS_of (l := (flattenOf d t).1) (by omega)
 have e0 := fun R => laws_eqSegS_ev (l := (flattenOf d t).1) (l' := (flattenOf d t).1) (by omega) qs R
 have m1 := fun R => laws_markSegS_ev (l := (flattenOf d t).1) (k := 1) (by omega) (by omega) (by omega) ps R
 have k1 := fun R => laws_heldSegS_ev (l := (flattenOf d t).1) (k := 1) (by omega) (by omega) (by omega) ps R
 refine Ev.suc.trans ?_
 simp only [laws_FnExactFlatten.q23, laws_FnExactFlatten.q23.b, laws_FnExactFlatten.j1, laws_FnExactFlatten.j0, t1, t3, s2, e0, m1, k1, and_self, Ev.andI, Ev.iteI, decide_eq_true_eq]
 rw [if_neg (by omega)]
 simp only [decide_true, Bool.not_true, Bool.false_eq_true, if_false, if_true, beq_self_eq_true]
 rw [if_neg (by omega)]
 exact Ev.s1 K _
theorem flatten_law {d : List tDecl} {t : List tTNode} (hd : Gd (.sl 0 yDecl) d) (ht : Gd (.sl 0 yTNode) t) (K : Bool → Prop) :
  Ev (fun n => laws_FnExactFlatten.c n d t K) ↔ K true := by
 refine Ev.suc.trans ?_
 simp only [laws_FnExactFlatten.c, laws_FnExactFlatten.w]
 rw [laws_szDeclS_ev (by omega) (by omega) hd.1 (szDeclS_gd hd)]
 simp only [Ev.iteI, decide_eq_true_eq, Ev.k]
 by_cases z1 : ((d.length + sDeclS d : Nat) : Int) ≤ 1048576
 ·rw [szr_ok z1, if_neg (by omega), laws_szTerm_ev (by omega) (by omega) ht.1 (szTNodeS_gd ht)]
  simp only [Ev.iteI, decide_eq_true_eq, Ev.k]
  by_cases z3 : ((t.length + sTNodeS t : Nat) : Int) ≤ 1048576 - ((d.length + sDeclS d : Nat) : Int)
  ·rw [szr_ok z3, if_neg (by omega)]
   have h : FlatIn d t := ⟨hd, ht, by omega⟩
   have hf := (flattenOf_R (d := d) (t := t)).size
   have t1 := fun R => laws_toDeclS_ev (l := d) (by omega) R
   have t3 := fun R => laws_toTerm_ev (a0 := t) (by omega) R
   have s1 := fun R => h.spec R
   have s2 := fun R => h.impl R
   have q3 := eqTNodeS_of (l := t) (by omega)
   have p3 := markTNodeS_of (l := t) (by omega)
   have c1 := cDeclS_le (l := d)
   have c3 := cTNodeS_le (l := t)
   have qs := eqSegS_of (l := (flattenOf d t).1) (by omega)
   have e0 := fun R => laws_eqSegS_ev (l := (flattenOf d t).1) (l' := (flattenOf d t).1) (by omega) qs R
   have e1 := fun R => laws_eqDeclS_ev (l := d) (l' := d) (by omega) R
   have e3 := fun R => laws_eqTerm_ev (a0 := t) (b0 := t) (by omega) q3 R
   have m1 := fun R => laws_markDeclS_ev (l := d) (k := 1) (by omega) (by omega) (by omega) R
   have m3 := fun R => laws_markTerm_ev (a0 := t) (k := 1 + (cDeclS d : Int)) (by omega) (by omega) (by omega) p3 R
   have kk := flatten_q23 h (fun _ => K)
   simp only [laws_FnExactFlatten.j4, laws_FnExactFlatten.j3, laws_FnExactFlatten.j2, t1, t3, s1, s2, e0, e1, e3, m1, m3, and_self, decide_true, Bool.not_true, Bool.false_eq_true, if_true, if_false, beq_self_eq_true, Ev.andI, Ev.iteI, decide_eq_true_eq, decide_eq_false_iff_not]
   rw [if_pos (by omega), kk, Ev.k]
  ·rw [szr_no z3, if_pos (by omega)]
 ·rw [szr_no z1, if_pos (by omega)]
end Go.Vsi
end
