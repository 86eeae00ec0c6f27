/- What the told functions answer. No statement is proved here. -/
import Derived.Test.YtmpbobopdjbopaaGreatB1

section
set_option linter.unusedVariables false
set_option linter.unusedSimpArgs false
set_option synthInstance.maxSize 4096
namespace Go.Vsi
theorem wd_of {l : List Int} (h : Gd (.sl 0 (.int .u64)) l) : Wd l := fun x hx => ⟨(h.2 x hx).1, (h.2 x hx).2⟩
theorem term_wd {t : List tTNode} (h : Gd (.sl 0 yTNode) t) (hz : t.length + sTNodeS t ≤ 1099511627776) : ∀ x : tTNode, x ∈ t → Wd x.2.2.2.2.2.1 ∧ x.2.2.2.2.2.2.length ≤ 1099511627776 :=
 fun x hx => ⟨wd_of (h.2 x hx).2.2.2.2.2.1, by have := sTNodeS_mem hx; omega⟩
end Go.Vsi
end

section
set_option linter.unusedVariables false
set_option linter.unusedSimpArgs false
set_option synthInstance.maxSize 4096
namespace Go.Vsi
theorem bind_q29 {d : List tDecl} {l : List tBinding} {v o o' : List tBits} {b c : Bool} (K : Nat → Bool → Prop) (S : Nat → List tDecl → List tBinding → List tBits → Bool → List tBits → List tBits → Prop) :
  Ev (fun n => laws_FnExactBind.q29 n d l v b c o o' (K n) (S n)) ↔ if c = true then Ev (fun n => K n false) else Ev (fun n => S n d l v b o o') := by
 refine Ev.suc.trans ?_
 simp only [laws_FnExactBind.q29, laws_FnExactBind.q29.b, Ev.iteI, Ev.s1 K, Ev.s6 S]
theorem bind_j1 {d : List tDecl} {l : List tBinding} {v : List tBits} (h : BindIn d l v) (z : d.length + sDeclS d + (l.length + sBindingS l) + (v.length + sBitsS v) ≤ 1048576) (K : Nat → Bool → Prop) :
  Ev (fun n => laws_FnExactBind.j1 (K n) n d l v (bindOf d l v).2 (bindOf d l v).1 (bindOf d l v).1) ↔ Ev (fun n => K n true) := by
 have ho := bindOf_s h
 have co := cBitsS_le (l := (bindOf d l v).1)
 have t1 := fun R => laws_toDeclS_ev (l := d) (by omega) R
 have t2 := fun R => laws_toBindingS_ev (l := l) (by omega) R
 have t3 := fun R => laws_toBitsS_ev (l := v) (by omega) R
 have s2 := fun R => bindOf_ev h R
 have ps := markBitsS_of (l := (bindOf d l v).1) (by omega)
 have e0 := fun R => laws_eqBitsS_ev (l := (bindOf d l v).1) (l' := (bindOf d l v).1) (by omega) (eqBitsS_of (by omega)) R
 have m1 := fun R => laws_markBitsS_ev (l := (bindOf d l v).1) (k := 1) (by omega) (by omega) (by omega) ps R
 have k1 := fun R => laws_heldBitsS_ev (l := (bindOf d l v).1) (k := 1) (by omega) (by omega) (by omega) ps R
 simp only [laws_FnExactBind.j1, laws_FnExactBind.j0, t1, t2, t3, s2, e0, m1, k1, Ev.iteI, decide_eq_true_eq]
 rw [if_neg (by omega)]
 simp only [decide_true, Bool.not_true, Bool.false_eq_true, if_false, if_true, beq_self_eq_true]
 rw [if_neg (by omega)]
theorem bind_q18 {d : List tDecl} {l : List tBinding} {v : List tBits} (h : BindIn d l v) (z : d.length + sDeclS d + (l.length + sBindingS l) + (v.length + sBitsS v) ≤ 1048576) (K : Nat → Bool → Prop) :
  Ev (fun n => laws_FnExactBind.q18 n d l v (bindOf d l v).2 (bindOf d l v).2 (bindOf d l v).1 d l v (bindOf d l v).1 (K n)) ↔ Ev (fun n => K n true) := by
 have ho := bindOf_s h
 have t1 := fun R => laws_toDeclS_ev (l := d) (by omega) R
 have t2 := fun R => laws_toBindingS_ev (l := l) (by omega) R
 have t3 := fun R => laws_toBitsS_ev (l := v) (by omega) R
 have c1 := cDeclS_le (l := d)
 have c2 := cBindingS_le (l := l)
 have c3 := cBitsS_le (l := v)
 have q2 := eqBindingS_of (l := l) (by omega)
 have q3 := eqBitsS_of (l := v) (by omega)
 have p2 := markBindingS_of (l := l) (by omega)
 have p3 := markBitsS_of (l := v) (by omega)
 have e0 := fun R => laws_eqBitsS_ev (l := (bindOf d l v).1) (l' := (bindOf d l v).1) (by omega) (eqBitsS_of (by omega)) R
 have e1 := fun R => laws_eqDeclS_ev (l := d) (l' := d) (by omega) R
 have e2 := fun R => laws_eqBindingS_ev (l := l) (l' := l) (by omega) q2 R
 have e3 := fun R => laws_eqBitsS_ev (l := v) (l' := v) (by omega) q3 R
 have m1 := fun R => laws_markDeclS_ev (l := d) (k := 1) (by omega) (by omega) (by omega) R
 have m2 := fun R => laws_markBindingS_ev (l := l) (k := 1 + (cDeclS d : Int)) (by omega) (by omega) (by omega) p2 R
 have m3 := fun R => laws_markBitsS_ev (l := v) (k := 1 + (cDeclS d : Int) + (cBindingS l : Int)) (by omega) (by omega) (by omega) p3 R
 refine Ev.suc.trans ?_
 simp only [laws_FnExactBind.q18, laws_FnExactBind.q18.b, t1, t2, t3, e0, e1, e2, e3, m1, m2, m3, and_self, decide_true, Bool.not_true, Bool.false_eq_true, if_true, if_false, beq_self_eq_true, Ev.iteI, decide_eq_false_iff_not]
 rw [if_pos (by omega), bind_q29, if_neg (by decide)]
 exact (bind_j1 h z (fun n => K (n + 1))).trans (Ev.s1 K _)
theorem bind_law {d : List tDecl} {l : List tBinding} {v : List tBits} (hd : Gd (.sl 0 yDecl) d) (hl : Gd (.sl 0 yBinding) l) (hv : Gd (.sl 0 yBits) v) (K : Bool → Prop) :
  Ev (fun n => laws_FnExactBind.c n d l v K) ↔ K true := by
 refine Ev.suc.trans ?_
 simp only [laws_FnExactBind.c, laws_FnExactBind.w]
 rw [laws_szDeclS_ev (by omega) (by omega) hd.1 (szDeclS_gd hd)]
 simp only [Ev.iteI, decide_eq_true_eq, Ev.k]
 by_cases z1 : ((d.length + sDeclS d : Nat) : Int) ≤ 1048576
 ·rw [szr_ok z1, if_neg (by omega), laws_szBindingS_ev (by omega) (by omega) hl.1 (szBindingS_gd hl)]
  simp only [Ev.iteI, decide_eq_true_eq, Ev.k]
  by_cases z2 : ((l.length + sBindingS l : Nat) : Int) ≤ 1048576 - ((d.length + sDeclS d : Nat) : Int)
  ·rw [szr_ok z2, if_neg (by omega), laws_szBitsS_ev (by omega) (by omega) hv.1 (szBitsS_gd hv)]
   simp only [Ev.iteI, decide_eq_true_eq, Ev.k]
   by_cases z3 : ((v.length + sBitsS v : Nat) : Int) ≤ 1048576 - ((d.length + sDeclS d : Nat) : Int) - ((l.length + sBindingS l : Nat) : Int)
   ·rw [szr_ok z3, if_neg (by omega)]
    have h : BindIn d l v := ⟨by omega, by omega, fun b hb => wd_of (hv.2 b hb).2, fun b hb => by have := sBitsS_mem hb; omega, fun y hy => term_wd (hl.2 y hy).2 (by have := sBindingS_mem hy; omega), by omega⟩
    have ho := bindOf_s h
    have t1 := fun R => laws_toDeclS_ev (l := d) (by omega) R
    have t2 := fun R => laws_toBindingS_ev (l := l) (by omega) R
    have t3 := fun R => laws_toBitsS_ev (l := v) (by omega) R
    have s1 := fun R => bindOfS_ev h R
    have s2 := fun R => bindOf_ev h R
    have e0 := fun R => laws_eqBitsS_ev (l := (bindOf d l v).1) (l' := (bindOf d l v).1) (by omega) (eqBitsS_of (by omega)) R
    have kk := bind_q18 h (by omega) (fun _ => K)
    simp only [t1, t2, t3, s1, s2, e0, decide_true, Bool.not_true, Bool.false_eq_true, if_false, if_true, beq_self_eq_true]
    rw [kk, Ev.k]
   ·rw [szr_no z3, if_pos (by omega)]
  ·rw [szr_no z2, if_pos (by omega)]
 ·rw [szr_no z1, if_pos (by omega)]
end Go.Vsi
end
