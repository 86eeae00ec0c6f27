/- What the told functions answer. No statement is proved here. -/
import Derived.Test.YtppcdaliielpgaaB1

section
set_option linter.unusedVariables false
set_option linter.unusedSimpArgs false
set_option synthInstance.maxSize 4096
namespace Go.Vsi
theorem bytes_gd {code : List Int} (hc : Gd (.sl 0 (.int .u8)) code) (h : ¬ (code.length : Int) > 1048576) : Bytes code := by
 refine ⟨fun x hx => ?_, by omega⟩
 have := hc.2 x hx
 have h1 : (0 : Int) <= x := this.1
 have h2 : x <= (255 : Int) := this.2
 omega
def DForm (f : List tSeg) : Prop := f.length <= 5000 /\ ∀ s ∈ f, Wd s.2.2.2.2 /\ s.2.2.2.2.length <= 4096
theorem flatten_cf {d : List tDecl} {t : List tTNode} (h : (flattenOf d t).2 = true) : ∃ L : List Bt, (flattenOf d t).1 = cf L /\ KOk L := by
 rw [flattenOf] at h ⊢
 by_cases hw : widthOf d t < 0
 ·rw [if_pos hw] at h; cases h
 ·rw [if_neg hw] at h ⊢
  have hd : declsOk d = true := by
   rw [widthOf] at hw
   split at hw
   ·assumption
   ·exact absurd (by decide) hw
  have hwi : ¬ widthI d t < 0 := by rw [widthOf, if_pos hd] at hw; exact hw
  obtain ⟨r, h1, h2, h3, h4, h5⟩ := widthI_go hwi
  have a0 : AccF [] [] := ⟨rfl, fun i hi => absurd hi (Nat.not_lt_zero _)⟩
  have w0 : WOk [] := fun w hw => by cases hw
  unfold flatB at h ⊢
  cases e : flatGo d t [] with
  | none => rw [e] at h; cases h
  | some a =>
   have al := flatGo_len e
   rw [List.length_nil, Nat.zero_add] at al
   have ao := flatGo_ok w0 a0 h1 e
   refine ⟨rd a (t.length - 1), ?_, (ao.2 (t.length - 1) (by omega)).1⟩
   show lastF a = _
   rw [lastF, al]
theorem DForm.of {L : List Bt} (h : KOk L) : DForm (cf L) := ⟨by have := (cf_len h).2; omega, fun s hs => ⟨cf_wd h s hs, cf_words h s hs⟩⟩
theorem flat_wp {bs : List Int} {p : Int} {d : List tDecl} {R : Nat -> List tSeg -> List Int -> Int -> Prop} (hb : Bytes bs) (hp : Pos bs p) (hd : DDecls d) (h : ∀ f q, DForm f -> Pos bs q -> Ev (fun n => R n f bs q)) :
  Ev (fun n => Z46.c n bs p d (R n)) := by
 have hd2 := hd.2.1
 refine Ev.succ ?_
 simp only [Z46.c, Z46.w]
 refine grow_wp hb hp hd fun t q ht hq => ?_
 have hwt : ∀ x ∈ t, Wd x.2.2.2.2.2.1 /\ x.2.2.2.2.2.2.length <= 1099511627776 := fun x hx => ⟨(ht.2.2 x hx).1, by have := (ht.2.2 x hx).2.2; omega⟩
 rw [flattenOfS_ev (by omega) hwt]
 by_cases hf : (flattenOf d t).2 = true
 ·obtain ⟨L, e, hL⟩ := flatten_cf hf
  rw [hf, e]
  obtain ⟨l1, l2⟩ := cf_len hL
  have hD := DForm.of hL
  have hw := cf_wd hL
  refine Ev.neg (by decide) (below_wp hb hq (by omega) fun i q1 i1 i2 hq1 => below_wp hb hq1 (by omega) fun r q2 _ _ hq2 => ?_)
  have hi := rd_memL (P := fun s : tSeg => Wd s.2.2.2.2 /\ s.2.2.2.2.length <= 4096) hD.2 (i := i.toNat) (by omega)
  have hs : ∀ (v lo w vw : Int), DForm (List.set (cf L) i.toNat (v, lo, w, vw, (rd (cf L) i.toNat).2.2.2.2)) := fun v lo w vw => ⟨by rw [List.length_set]; omega, mem_setL (y := (v, lo, w, vw, (rd (cf L) i.toNat).2.2.2.2)) hD.2 hi⟩
  have hg : (decide (0 <= i) && decide (i < ((cf L).length : Int))) = true := by simp; omega
  refine Ev.ite (fun _ => ?_) fun _ => Ev.ite (fun _ => ?_) fun _ => Ev.ite (fun _ => ?_) fun _ => Ev.ite (fun _ => ?_) fun _ => Ev.ite (fun _ => ?_) fun _ => (h _ q2 hD hq2).shift
  ·exact off_wp hb hq2 ⟨by omega, by omega⟩ ⟨by omega, by omega⟩ (by omega) fun v q3 _ hq3 => Ev.grd hg (h _ q3 (hs _ _ _ _) hq3).shift
  ·exact off_wp hb hq2 ⟨by omega, by omega⟩ ⟨by omega, by omega⟩ (by omega) fun v q3 _ hq3 => Ev.grd hg (h _ q3 (hs _ _ _ _) hq3).shift
  ·exact off_wp hb hq2 ⟨by omega, by omega⟩ ⟨by omega, by omega⟩ (by omega) fun v q3 _ hq3 => Ev.grd hg (h _ q3 (hs _ _ _ _) hq3).shift
  ·exact Ev.grd hg (Ev.grd (by simp; omega) (h _ q2 ⟨by simp; omega, mem_appL hD.2 (mem_oneL hi)⟩ hq2).shift)
  ·exact Ev.grd (by simp) (h _ q2 ⟨by simp, fun s hs => by simp at hs⟩ hq2).shift
 ·have hf' := Bool.eq_false_iff.2 hf
  rw [hf']
  exact Ev.pos rfl (h _ q ⟨by simp, mem_oneL ⟨Wd.nil, by simp⟩⟩ hq).shift
theorem wide3_wp {f : List tSeg} (hf : f.length <= 5000) : ∀ (m : Nat) (x t : Int), x + m = f.length -> 0 <= x -> 0 <= t -> t <= 5000 * x -> ∀ R : Nat -> Int -> Prop, (∀ t', 0 <= t' -> Ev (fun n => R n t')) -> Ev (fun n => Z66.l3 n f t x (R n))
 | 0, x, t, hx, h0, ht, ht', R, hR => by
  refine Ev.succ ?_
  simp only [Z66.l3, Z66.l3.b]
  exact Ev.neg (by simp; omega) (hR t ht).shift
 | m + 1, x, t, hx, h0, ht, ht', R, hR => by
  refine Ev.succ ?_
  simp only [Z66.l3, Z66.l3.b]
  refine Ev.pos (by simp; omega) (Ev.grd (by simp; omega) ?_)
  rw [l1In_ev]
  rw [wrap64 (x := x + 1) (by omega) (by omega)]
  refine Ev.ite (fun hc => Ev.grd (by simp; omega) ?_) fun _ => wide3_wp hf m (x + 1) t (by omega) (by omega) ht (by omega) (fun n => R (n + 1)) fun t' h => (hR t' h).shift
  simp only [decide_eq_true_eq] at hc
  rw [wrap64 (x := t + (rd f x.toNat).2.2.1) (by omega) (by omega)]
  exact wide3_wp hf m (x + 1) _ (by omega) (by omega) (by omega) (by omega) (fun n => R (n + 1)) fun t' h => (hR t' h).shift
theorem wide_wpF {f : List tSeg} (hf : f.length <= 5000) {R : Nat -> List Int -> Prop} (h : ∀ l : List Int, l.length <= 20000 -> Ev (fun n => R n l)) : Ev (fun n => Z66.c n f (R n)) := by
 refine Ev.succ ?_
 simp only [Z66.c, Z66.w]
 refine wide3_wp hf f.length 0 0 (by omega) (by omega) (by omega) (by omega) (fun n y19 => grd _ _) fun t ht => ?_
 refine Ev.grd ?_ (h _ ?_).shift
 ·simp only [decide_true, Bool.and_true, Bool.and_eq_true, decide_eq_true_eq]; split <;> omega
 ·rw [List.length_replicate]; split <;> omega
theorem drawFlatPart_wp {bs : List Int} {R : Nat -> List tDecl -> List tSeg -> Int -> Int -> Prop} (hb : Bytes bs) (h : ∀ d f high low, DDecls d -> DForm f -> In64 high -> Ev (fun n => R n d f high low)) :
  Ev (fun n => Z32.c n bs (R n)) := by
 refine Ev.succ ?_
 simp only [Z32.c, Z32.w]
 refine open_wp (decls_wp hb ⟨by omega, by omega⟩ fun d q hd hq => flat_wp hb hq hd fun f q1 hf hq1 => wide_wpF hf.1 fun l hl => ?_)
 rw [wrap64 (x := (l.length : Int) - 1) (by omega) (by omega)]
 refine off_wp hb hq1 ⟨by omega, by omega⟩ ⟨by split <;> omega, by split <;> omega⟩ (by split <;> omega) fun high q2 hh hq2 => ?_
 obtain ⟨hh1, hh2⟩ := hh
 exact off_wp hb hq2 ⟨by omega, by omega⟩ ⟨by split <;> omega, by split <;> omega⟩ (by split <;> omega) fun low q3 _ hq3 => (h d f high low hd hf ⟨hh1, hh2⟩).shift
theorem sameForm_lp {a : List tSeg} (hl : a.length <= 1048576) (ha : ∀ s ∈ a, s.2.2.2.2.length <= 1099511627776) : ∀ (m : Nat) (x : Int), x + m = a.length -> 0 <= x -> ∀ (Kx : Nat -> Prop) (Kr : Nat -> Bool -> Prop), Ev Kx -> Ev (fun n => Z27.l4 n a a x (Kx n) (Kr n))
 | 0, x, hx, h0, Kx, Kr, hK => by
  refine Ev.succ ?_
  simp only [Z27.l4, Z27.l4.b]
  exact Ev.neg (by simp; omega) hK.shift
 | m + 1, x, hx, h0, Kx, Kr, hK => by
  have ih := sameForm_lp hl ha m (x + 1) (by omega) (by omega) (fun n => Kx (n + 1)) (fun n => Kr (n + 1)) hK.shift
  have la := rd_memL (P := fun s : tSeg => s.2.2.2.2.length <= 1099511627776) ha (i := x.toNat) (by omega)
  have sm := fun R => sameL_ev (a := (rd a x.toNat).2.2.2.1) (b := (rd a x.toNat).2.2.2.1) (l := (rd a x.toNat).2.2.2.2) (l' := (rd a x.toNat).2.2.2.2) la R
  refine Ev.succ ?_
  simp (disch := omega) only [Z27.l4, Z27.l4.b, decide_eq_true_eq, if_pos, grd_dec2, wrap64, decide_true, Bool.not_true, if_true]
  rw [sm]
  simpa using ih
theorem sameForm_wp {a : List tSeg} (hl : a.length <= 1048576) (ha : ∀ s ∈ a, s.2.2.2.2.length <= 1099511627776) (R : Nat -> Bool -> Prop) (h : Ev (fun n => R n true)) : Ev (fun n => Z27.c n a a (R n)) := by
 refine Ev.succ ?_
 simp only [Z27.c, Z27.w]
 exact Ev.neg (by simp) (sameForm_lp hl ha a.length 0 (by omega) (by omega) (fun n => R (n + 1) true) (fun n => R (n + 1)) h.shift)
theorem lawWide_lp {high : Int} {d : List tDecl} {low : List tSeg} {G : List tSeg} (hG : G.length <= 4096) : ∀ (ys : List Sg) (x : Int) (a : Nat), G.drop x.toNat = ys.map cvS -> 0 <= x -> a + (ys.flatMap Sg.bits).length <= 4096 ->
  ∀ Kx : Nat -> Int -> Int -> List tDecl -> List tSeg -> List tSeg -> Prop, (Ev (fun n => laws_FnFlatParts.l12 n high d G low a x (Kx n)) ↔ Ev (fun n => Kx n high ((a + (ys.flatMap Sg.bits).length : Nat) : Int) d G low))
 | [], x, a, h, h0, hw, Kx => by
  have := drop_nil (l := G) h h0
  refine Ev.suc.trans ?_
  simp (disch := omega) only [laws_FnFlatParts.l12, laws_FnFlatParts.l12.b, if_neg, decide_eq_true_eq, List.flatMap_nil, List.length_nil, Nat.add_zero, Ev.s5 Kx]
 | s :: ys, x, a, h, h0, hw, Kx => by
  obtain ⟨e1, e2, e3⟩ := drop_cons (l := G) (y := cvS s) (ys := ys.map cvS) h h0
  rw [List.flatMap_cons, List.length_append, s.bits_len] at hw ⊢
  have ih := lawWide_lp (high := high) (d := d) (low := low) hG ys (x + 1) (a + s.wid) e3 (by omega) (by omega) (fun n => Kx (n + 1))
  have wa : IntKind.wrap .i64 ((a : Int) + (s.wid : Int)) = ((a + s.wid : Nat) : Int) := by rw [wrap64 (by omega) (by omega)]; omega
  refine Ev.suc.trans ?_
  simp (disch := omega) only [laws_FnFlatParts.l12, laws_FnFlatParts.l12.b, if_pos, decide_eq_true_eq, grd_dec2, e2, cvS_wid, wa, wrap64 (x := x + 1)]
  rw [ih, Nat.add_assoc]; exact Ev.s5 Kx _ _ _ _ _
theorem partS_no {d : List tDecl} {f : List tSeg} {high low : Int} (hw : ∀ s ∈ f, Wd s.2.2.2.2) (h : flatOkB d f = false) (R : Nat -> List tSeg -> Bool -> Prop) : Ev (fun n => Z34.c n d f high low (R n)) ↔ Ev (fun n => R n [] false) := by
 refine Ev.suc.trans ?_
 have fo := fun R => flatOkS_ev (d := d) hw R
 simp only [Z34.c, Z34.w, fo, h, Bool.not_false, if_true]
 exact Ev.s2 R _ _
theorem partI_no {d : List tDecl} {f : List tSeg} {high low : Int} (h : flatOkB d f = false) (R : Nat -> List tSeg -> Bool -> Prop) : Ev (fun n => Z7.c n d f high low (R n)) ↔ Ev (fun n => R n [] false) := by
 refine Ev.suc.trans ?_
 simp only [Z7.c, Z7.w, Z7.j0, flatOkB_ev, h, Bool.not_false, Bool.true_eq_false, if_false, if_true]
 exact Ev.s2 R _ _
theorem flatParts_law {code : List Int} (hc : Gd (.sl 0 (.int .u8)) code) (K : Bool -> Prop) : True /\ (K true -> Ev (fun n => laws_FnFlatParts.c n code K)) := by
 refine ⟨trivial, fun hK => ?_⟩
 refine Ev.succ ?_
 simp only [laws_FnFlatParts.c, laws_FnFlatParts.w]
 refine big_wp (Ev.ite (fun _ => Ev.const hK) fun hb => ?_)
 have hB := bytes_gd hc (by simpa using hb)
 refine drawFlatPart_wp hB fun d f high lo hd hf hh => ?_
 have hw : ∀ s ∈ f, Wd s.2.2.2.2 := fun s hs => (hf.2 s hs).1
 by_cases hok : flatOkB d f = true
 ·obtain ⟨L, hL, rfl, hin, hl⟩ := flatOk_form hok hw
  have hdo : declsOk d = true := by rw [flatOkB, Bool.and_eq_true] at hok; exact hok.1
  have h4 := hL.2.2
  have h5 := hL.2.1
  rw [partS_evF hdo hL hin hl]
  by_cases c : 0 <= (0 : Int) /\ 0 <= high /\ high < (L.length : Int)
  ·simp only [if_pos c]
   rw [partI_ev hdo hL hin hl hh]
   simp only [if_pos c]
   refine Ev.neg (by decide) (Ev.neg (by decide) ?_)
   obtain ⟨_, c1, c2⟩ := c
   have hcl := cutL_ok hL hin hl (low := 0) (high := high) (by omega) c1 c2
   have e : (form L).reverse.flatMap Sg.bits = L := bits_form L
   have lw := fun Kx => lawWide_lp (high := high) (d := d) (low := cf (cutL L high 0)) (G := cf L) (cf_len hL).2 (form L).reverse 0 0 rfl (by omega) (by rw [e]; omega) Kx
   rw [e, Nat.zero_add] at lw
   simp only [Int.natCast_zero] at lw
   refine (lw (fun n y33 y34 y35 y36 y37 => _)).2 ?_
   rw [wrap64 (x := (L.length : Int) - 1) (by omega) (by omega), wrap64 (x := high + 1) (by omega) (by omega)]
   have sf := sameForm_wp (a := cf L) (by have := (cf_len hL).2; omega) (fun s hs => by have := cf_words hL s hs; omega) (fun n y => K y) (Ev.const hK)
   refine Ev.ite (fun he => ?_) fun he => ?_
   ·have he' : high = (L.length : Int) - 1 := by simpa using he
    have : cutL L high 0 = L := by rw [cutL]; simp only [Int.toNat_zero, List.drop_zero]; exact List.take_of_length_le (by omega)
    rw [this]; exact sf
   ·have he' : ¬ high = (L.length : Int) - 1 := by simpa using he
    have ht := cutL_ok hL hin hl (low := high + 1) (high := (L.length : Int) - 1) (by omega) (by omega) (by omega)
    have ej : cutL L high 0 ++ cutL L ((L.length : Int) - 1) (high + 1) = L := by
     rw [cutL, cutL]
     simp only [Int.toNat_zero, List.drop_zero]
     rw [show (high - 0 + 1).toNat = (high + 1).toNat by omega, List.take_of_length_le (show (L.drop (high + 1).toNat).length <= ((L.length : Int) - 1 - (high + 1) + 1).toNat by rw [List.length_drop]; omega), List.take_append_drop]
    have hlen := congrArg List.length ej
    rw [List.length_append] at hlen
    rw [partI_ev hdo hL hin hl ⟨by omega, by omega⟩]
    simp only [if_pos (show 0 <= high + 1 /\ high + 1 <= (L.length : Int) - 1 /\ (L.length : Int) - 1 < (L.length : Int) by omega)]
    rw [joinI_ev hdo ht.1 hcl.1 ⟨ht.2.1, hcl.2.1⟩ ⟨ht.2.2, hcl.2.2⟩ (by omega) (by rw [ej]; exact hl), ej]
    exact Ev.pos (by simp) (Ev.pos (by simp) sf)
  ·simp only [if_neg c]
   rw [partI_ev hdo hL hin hl hh]
   simp only [if_neg c]
   exact Ev.neg (by decide) (Ev.pos rfl (Ev.const hK))
 ·have hok' := Bool.eq_false_iff.2 hok
  rw [partS_no hw hok', partI_no hok']
  exact Ev.neg (by decide) (Ev.pos rfl (Ev.const hK))
end Go.Vsi
end
