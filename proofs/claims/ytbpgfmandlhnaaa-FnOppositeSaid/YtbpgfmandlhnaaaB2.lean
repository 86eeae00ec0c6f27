/- What the told functions answer. No statement is proved here. -/
import Derived.Test.YtbpgfmandlhnaaaB1

section
set_option linter.unusedVariables false
set_option linter.unusedSimpArgs false
set_option synthInstance.maxSize 4096
namespace Go.Vsi
theorem bytes_gd {code : List Int} (hc : Gd (.sl 0 (.int .u8)) code) (h : ¬ (code.length : Int) > 1048576) : Bytes code := by
 refine ⟨fun x hx => ?_, by omega⟩
 have := hc.2 x hx
 have h1 : (0 : Int) ≤ x := this.1
 have h2 : x ≤ (255 : Int) := this.2
 omega
theorem DVals.wd {v : List tBits} (h : DVals v) : ∀ z ∈ v, Wd z.2 := fun z hz => (h.2 z hz).2.1
theorem DL.g {l : tLiteral} (h : DL l) : LitG [l] := fun y hy => by
 rw [List.mem_singleton] at hy; subst hy; exact ⟨h.1.wd, h.2.wd⟩
theorem drawHolds_wp {bs : List Int} {R : Nat → List tDecl → List tBits → Int → Bool → List tTNode → List tTNode → Prop} (hb : Bytes bs) (h : ∀ d v i e s t, DDecls d → DVals v → DL (i, e, s, t) → Ev (fun n => R n d v i e s t)) :
  Ev (fun n => spec_DrawHolds.c n bs (R n)) := by
 refine Ev.succ ?_
 simp only [spec_DrawHolds.c, spec_DrawHolds.w]
 refine open_wp (decls_wp hb ⟨by omega, by omega⟩ fun d q hd hq => values_wp hb hq hd.1 hd.2.1 fun v q1 hv hq1 => oddLiterals_wp hb hq1 hd (by omega) (by omega) fun l q2 hl hq2 => Ev.ite (fun _ => ?_) fun hn => ?_)
 ·exact (h _ _ _ _ _ _ hd hv (DL.of ⟨by simp, fun x hx => by cases hx⟩ ⟨by simp, fun x hx => by cases hx⟩)).shift
 ·have hn' : 0 < l.length := by simp only [decide_eq_true_eq] at hn; omega
  have h0 := rd_memL (P := DL) hl.2 (i := 0) hn'
  exact Ev.grd (by simp; omega) (h _ _ _ _ _ _ hd hv (DL.of h0.1 h0.2)).shift
theorem opposite_law {code : List Int} (hc : Gd (.sl 0 (.int .u8)) code) (K : Bool → Prop) : True ∧ (K true → Ev (fun n => laws_FnOpposite.c n code K)) := by
 refine ⟨trivial, fun hK => ?_⟩
 refine Ev.succ ?_
 simp only [laws_FnOpposite.c, laws_FnOpposite.w]
 refine big_wp (Ev.ite (fun _ => Ev.const hK) fun hb => ?_)
 have hB := bytes_gd hc (by simpa using hb)
 refine drawHolds_wp hB fun d v i e s t hd hv hl => ?_
 have hd2 := hd.2.1
 have s1 := fun R => holdsS_ev (d := d) (vals := v) (l := (i, e, s, t)) (by omega) hv.wd hl.g R
 have s2 := fun R => holdsOf_ev (d := d) (vals := v) (l := (i, e, s, t)) (by omega) hv.wd (hl.g.w _ List.mem_cons_self) R
 have s3 := fun R => holdsOf_ev (d := d) (vals := v) (l := (i, !e, s, t)) (by omega) hv.wd ((DL.of (i := i) (e := !e) hl.1 hl.2).g.w _ List.mem_cons_self) R
 simp only at s1 s2 s3
 simp only [laws_FnOpposite.j0]
 rw [s1, s2, s3]
 have hlo : litsI d [((i, !e, s, t) : tLiteral)] = litsI d [((i, e, s, t) : tLiteral)] := rfl
 by_cases h : valsOk d v = true ∧ litsI d [((i, e, s, t) : tLiteral)] = true
 ·have e1 : holdsOf d v (i, e, s, t) = (holdsB v (i, e, s, t), true) := by rw [holdsOf, if_pos h]
  have e2 : holdsOf d v (i, !e, s, t) = (!(holdsB v (i, e, s, t)), true) := by
   rw [holdsOf, hlo, if_pos h]
   simp only [holdsB]
   cases decide ((evalB v s).1 = (evalB v t).1 ∧ (evalB v s).2 = (evalB v t).2) <;> cases e <;> rfl
  have hi : 1 ≤ i ∧ i ≤ 1000000 := by
   have := h.2
   rw [litsI, litsGo, Bool.and_eq_true, Bool.and_eq_true, Bool.and_eq_true, Bool.and_eq_true, decide_eq_true_eq] at this
   have := this.2.1.1.1
   simp only [decide_eq_true_eq] at this
   omega
  rw [e1, e2]
  simp only [beq_self_eq_true, Bool.not_true, Bool.false_eq_true, if_false, if_true]
  rw [wrap64 (by omega) (by omega)]
  refine Ev.ite (fun _ => ?_) fun hid => ?_
  ·have : K (!(holdsB v (i, e, s, t) == !(holdsB v (i, e, s, t)))) := by cases holdsB v (i, e, s, t) <;> exact hK
   exact Ev.const this
  ·have hid' : i + 1 ≤ 1000000 := by simp only [decide_eq_true_eq] at hid; omega
   have hl2 : litsI d [((i, e, s, t) : tLiteral), (i + 1, !e, s, t)] = true := by
    have h2 := h.2
    simp only [litsI, litsGo, List.length_cons, List.length_nil, Bool.and_eq_true, decide_eq_true_eq, Bool.not_eq_true', decide_eq_false_iff_not, and_true] at h2 ⊢
    exact ⟨by omega, h2.2, ⟨by omega, h2.2.1.2⟩, h2.2.2⟩
   have s4 := fun R => failsOf_ev (d := d) (vals := v) (l := [((i, e, s, t) : tLiteral), (i + 1, !e, s, t)]) (by omega) hv.wd (fun y hy => by
    simp only [List.mem_cons, List.not_mem_nil, or_false] at hy
    rcases hy with rfl | rfl
    ·exact hl.g.w _ List.mem_cons_self
    ·exact (DL.of (i := i + 1) (e := !e) hl.1 hl.2).g.w _ List.mem_cons_self) R
   rw [s4]
   have e3 : holdsB v (i + 1, !e, s, t) = !(holdsB v (i, e, s, t)) := by
    simp only [holdsB]
    cases decide ((evalB v s).1 = (evalB v t).1 ∧ (evalB v s).2 = (evalB v t).2) <;> cases e <;> rfl
   have e5 : failsOf d v [((i, e, s, t) : tLiteral), (i + 1, !e, s, t)] = if holdsB v (i, e, s, t) = true then (if (!(holdsB v (i, e, s, t))) = true then 0 else i + 1) else i := by
    rw [failsOf, if_pos ⟨h.1, hl2⟩, failsGo, failsGo, failsGo, e3]
   rw [e5]
   cases hh : holdsB v (i, e, s, t)
   ·simp; exact hK
   ·simp; exact hK
 ·have e1 : holdsOf d v (i, e, s, t) = (false, false) := by rw [holdsOf, if_neg h]
  have e2 : holdsOf d v (i, !e, s, t) = (false, false) := by rw [holdsOf, hlo, if_neg h]
  rw [e1, e2]
  simp only [beq_self_eq_true, Bool.not_true, Bool.false_eq_true, if_false, if_true, Bool.not_false]
  exact Ev.const hK
end Go.Vsi
end
