/- What the told functions answer. No statement is proved here. -/
import Derived.Test.YtfmjhfijkdlidaaB1
set_option linter.unusedVariables false
set_option linter.unusedSimpArgs false
set_option synthInstance.maxSize 4096

section
namespace Go.Vsi
def zX (s : List UInt8) : Nat -> Nat -> List qU -> List Int -> (List qU × List Int) ⊕ (Int × Int)
 | 0, _, N, O => .inl (N, O)
 | f + 1, i, N, O => if s.length <= i then .inl (N, O)
  else if (List.getD s i 0).toNat = 32 \/ (List.getD s i 0).toNat = 10 then zX s f (i + 1) N O
  else if (List.getD s i 0).toNat < 32 \/ 126 < (List.getD s i 0).toNat then .inr (2, i)
  else if (List.getD s i 0).toNat = 59 then zX s f (i + 1 + run qI0 s (i + 1)) N O
  else if (List.getD s i 0).toNat = 41 then (if O.length = 0 then .inr (3, i) else zX s f (i + 1) N (O.take (O.length - 1)))
  else if (List.getD s i 0).toNat = 40 then (if (jC N O []).1 = 0 then zX s f (i + 1) (jC N O []).2 (O ++ [((jC N O []).2.length : Int) - 1]) else .inr ((jC N O []).1, i))
  else (if (jC N O ((s.drop i).take (run zW s i))).1 = 0 then zX s f (i + run zW s i) (jC N O ((s.drop i).take (run zW s i))).2 O else .inr ((jC N O ((s.drop i).take (run zW s i))).1, i))
theorem qDs.cut {N : List qU} {O : List Int} (h : qDs N O) (k : Nat) : qDs N (O.take k) :=
 ⟨h.n, by rw [List.length_take]; have := h.o; omega, fun x hx => h.mem x (List.mem_of_mem_take hx), h.kid⟩
theorem qDs.up {N : List qU} {O : List Int} (h : qDs N O) (h1 : 1 <= N.length) (h2 : O.length <= 100) : qDs N (O ++ [(N.length : Int) - 1]) :=
 ⟨h.n, by simp; omega, fun x hx => (List.mem_append.1 hx).elim (h.mem x) fun hx => by
  rw [List.mem_singleton] at hx; subst hx; omega, h.kid⟩
theorem qDs.nil : qDs [] [] := ⟨Nat.zero_le _, Nat.zero_le _, fun x hx => (List.not_mem_nil hx).elim, fun i hi => absurd hi (Nat.not_lt_zero _)⟩
theorem qLW {s : List UInt8} {i : Nat} (hi : i < s.length) (h : zW (List.getD s i 0) = true) : 1 <= run zW s i := by rw [qGL hi h]; omega
theorem qJg {s : List UInt8} (hl : s.length <= 20000) {z : List qU} : ∀ (f i : Nat), s.length <= i + f -> i <= s.length -> ∀ (N : List qU) (O : List Int), qDs N O -> ∀ (Kx : Nat -> List UInt8 -> List qU -> List qU -> List Int -> Prop) (Kr : Nat -> Int -> Int -> List qU -> Prop),
  (Ev (fun n => Z45.l5 n s i z N O (Kx n) (Kr n)) ↔ match zX s f i N O with | .inl (N', O') => Ev (fun n => Kx n s z N' O') | .inr (c, a) => Ev (fun n => Kr n c a []))
 | 0, i, hf, hi, N, O, h, Kx, Kr => by
  refine Ev.suc.trans ?_
  simp only [Z45.l5, Z45.l5.b, zX]
  rw [Ev.iteI, if_neg (by simp; omega)]
  exact Ev.s4 Kx _ _ _ _
 | f + 1, i, hf, hi, N, O, h, Kx, Kr => by
  rw [zX]
  by_cases hlt : s.length <= i
  ·rw [if_pos hlt]
   refine Ev.suc.trans ?_
   simp only [Z45.l5, Z45.l5.b]
   rw [Ev.iteI, if_neg (by simp; omega)]
   exact Ev.s4 Kx _ _ _ _
  ·rw [if_neg hlt]
   have hlt' : i < s.length := by omega
   have e1 : IntKind.wrap .i64 ((i : Int) + 1) = ((i + 1 : Nat) : Int) := by rw [qC (by omega) (by omega)]; omega
   have g : (0 : Int) <= (i : Int) /\ (i : Int) < (s.length : Int) := ⟨by omega, by omega⟩
   have ih := fun j hj1 hj2 N' O' hh => qJg hl (z := z) f j hj1 hj2 N' O' hh (fun n => Kx (n + 1)) (fun n => Kr (n + 1))
   have sx : ∀ r : (List qU × List Int) ⊕ (Int × Int), (match r with | .inl (N', O') => Ev (fun n => Kx (n + 1) s z N' O') | .inr (c, a) => Ev (fun n => Kr (n + 1) c a [])) ↔ (match r with | .inl (N', O') => Ev (fun n => Kx n s z N' O') | .inr (c, a) => Ev (fun n => Kr n c a [])) := fun r => by
    cases r with
    | inl p => exact Ev.s4 Kx _ _ _ _
    | inr p => exact Ev.s3 Kr _ _ _
   have hrem := qJq (p := qI0) (s := s) (i := i + 1) (by omega)
   have hat := qJq (p := zW) (s := s) (i := i) (by omega)
   refine Ev.suc.trans ?_
   simp only [Z45.l5, Z45.l5.b, e1, Int.toNat_natCast, qD g]
   rw [Ev.iteI, if_pos (by simp; omega)]
   have key := fun b => qNx hl hlt' (c := (List.getD s i 0).toNat) (b := b) (z := z) h
    (fun n y267 y268 y269 y270 y271 y272 y273 => if (!(decide (y269 = 0))) = true then (Kr (n + 1) y269 y268 ([] : List (qU))) else (Z45.l5 n y267 y270 y271 y272 y273 (Kx (n + 1)) (Kr (n + 1))))
    (fun n y274 y275 y276 y277 y278 y279 y280 y281 y282 => if (!(decide (y276 = 0))) = true then (Kr (n + 1) y276 y275 ([] : List (qU))) else (Z45.l5 n y274 y277 y278 y279 (List.take y282 y280) (Kx (n + 1)) (Kr (n + 1))))
    (fun n y283 y284 y285 y286 y287 y288 y289 => if (!(decide (y285 = 0))) = true then (Kr (n + 1) y285 y284 ([] : List (qU))) else (Z45.l5 n y283 y286 y288 y289 y287 (Kx (n + 1)) (Kr (n + 1))))
   have hatom : ∀ h1 : ¬ ((List.getD s i 0).toNat < 32 \/ 126 < (List.getD s i 0).toNat), (List.getD s i 0).toNat ≠ 32 -> (List.getD s i 0).toNat ≠ 59 -> (List.getD s i 0).toNat ≠ 41 -> (List.getD s i 0).toNat ≠ 40 -> 1 <= run zW s i := fun h1 h2 h3 h4 h5 =>
    qLW hlt' (by unfold zW; rw [decide_eq_true_eq]; omega)
   obtain ⟨c, ec⟩ : ∃ c, c = (List.getD s i 0).toNat := ⟨_, rfl⟩
   simp only [<- ec] at key hatom ⊢
   have whole : (if c = 32 \/ c = 10 then Ev (fun n => Z45.l5 n s ((i + 1 : Nat) : Int) z N O (Kx (n + 1)) (Kr (n + 1)))
     else if c < 32 \/ 126 < c then Ev (fun n => Kr (n + 1) 2 i []) else if c = 59 then Ev (fun n => Z45.l5 n s ((i + 1 + run qI0 s (i + 1) : Nat) : Int) z N O (Kx (n + 1)) (Kr (n + 1)))
     else if c = 41 then (if O.length = 0 then Ev (fun n => Kr (n + 1) 3 i []) else Ev (fun n => Z45.l5 n s ((i + 1 : Nat) : Int) z N (O.take (O.length - 1)) (Kx (n + 1)) (Kr (n + 1))))
     else if c = 40 then (if (jC N O []).1 = 0 then Ev (fun n => Z45.l5 n s ((i + 1 : Nat) : Int) z (jC N O []).2 (O ++ [((jC N O []).2.length : Int) - 1]) (Kx (n + 1)) (Kr (n + 1))) else Ev (fun n => Kr (n + 1) (jC N O []).1 i []))
     else (if (jC N O ((s.drop i).take (run zW s i))).1 = 0 then Ev (fun n => Z45.l5 n s ((i + run zW s i : Nat) : Int) z (jC N O ((s.drop i).take (run zW s i))).2 O (Kx (n + 1)) (Kr (n + 1))) else Ev (fun n => Kr (n + 1) (jC N O ((s.drop i).take (run zW s i))).1 i [])))
     ↔ (match (if c = 32 \/ c = 10 then zX s f (i + 1) N O
  else if c < 32 \/ 126 < c then .inr (2, (i : Int))
  else if c = 59 then zX s f (i + 1 + run qI0 s (i + 1)) N O
  else if c = 41 then (if O.length = 0 then .inr (3, (i : Int)) else zX s f (i + 1) N (O.take (O.length - 1)))
  else if c = 40 then (if (jC N O []).1 = 0 then zX s f (i + 1) (jC N O []).2 (O ++ [((jC N O []).2.length : Int) - 1]) else .inr ((jC N O []).1, (i : Int)))
  else (if (jC N O ((s.drop i).take (run zW s i))).1 = 0 then zX s f (i + run zW s i) (jC N O ((s.drop i).take (run zW s i))).2 O else .inr ((jC N O ((s.drop i).take (run zW s i))).1, (i : Int)))) with | .inl (N', O') => Ev (fun n => Kx n s z N' O') | .inr (c, a) => Ev (fun n => Kr n c a [])) := by
    by_cases h1 : c = 32 \/ c = 10
    ·rw [if_pos h1, if_pos h1, ih (i + 1) (by omega) (by omega) N O h]; exact sx _
    ·rw [if_neg h1, if_neg h1]
     by_cases h2 : c < 32 \/ 126 < c
     ·rw [if_pos h2, if_pos h2]; exact Ev.s3 Kr _ _ _
     ·rw [if_neg h2, if_neg h2]
      by_cases h3 : c = 59
      ·rw [if_pos h3, if_pos h3, ih _ (by omega) hrem N O h]; exact sx _
      ·rw [if_neg h3, if_neg h3]
       by_cases h4 : c = 41
       ·rw [if_pos h4, if_pos h4]
        by_cases h0 : O.length = 0
        ·rw [if_pos h0, if_pos h0]; exact Ev.s3 Kr _ _ _
        ·rw [if_neg h0, if_neg h0, ih _ (by omega) (by omega) N _ (h.cut _)]; exact sx _
       ·rw [if_neg h4, if_neg h4]
        by_cases h5 : c = 40
        ·rw [if_pos h5, if_pos h5]
         obtain ⟨b1, b2, b3⟩ := wF h []
         by_cases h0 : (jC N O []).1 = 0
         ·obtain ⟨b4, b5⟩ := b3 h0
          rw [if_pos h0, if_pos h0, ih _ (by omega) (by omega) _ _ (b1.up (by omega) b5)]; exact sx _
         ·rw [if_neg h0, if_neg h0]; exact Ev.s3 Kr _ _ _
        ·rw [if_neg h5, if_neg h5]
         obtain ⟨b1, b2, b3⟩ := wF h ((s.drop i).take (run zW s i))
         have := hatom h2 (fun h => h1 (.inl h)) h3 h4 h5
         by_cases h0 : (jC N O ((s.drop i).take (run zW s i))).1 = 0
         ·rw [if_pos h0, if_pos h0, ih _ (by omega) hat _ _ b1]; exact sx _
         ·rw [if_neg h0, if_neg h0]; exact Ev.s3 Kr _ _ _
   refine Iff.trans ?_ whole
   rw [Ev.iteI]
   by_cases h32 : c = 32
   ·rw [if_neg (by simp; omega), if_pos (show c = 32 \/ c = 10 from .inl h32)]
    refine (key true).trans ?_
    rw [if_pos rfl]
    exact Iff.rfl
   ·rw [if_pos (by simp; omega)]
    refine (key (decide ((c : Int) = 10))).trans ?_
    simp only [Ev.iteI, Bool.not_eq_true', decide_eq_false_iff_not, decide_eq_true_eq, ite_not, eq_self, if_true, show ((2 : Int) = 0) = False from by decide, show ((3 : Int) = 0) = False from by decide, if_false]
    by_cases h10 : c = 10
    ·rw [if_pos (by omega), if_pos (show c = 32 \/ c = 10 from .inr h10)]
    ·rw [if_neg (by omega), if_neg (show ¬ (c = 32 \/ c = 10) by omega)]
def qAL (s : List UInt8) : List qU × Int × Int :=
 if 20000 < s.length then ([], 1, 0) else match zX s s.length 0 [] [] with
  | .inl (N, O) => if 0 < O.length then ([], 7, s.length) else if N.length = 0 then ([], 8, s.length) else (N, 0, 0)
  | .inr (c, a) => ([], c, a)
theorem qGN (s : List UInt8) (R : Nat -> List qU -> Int -> Int -> Prop) : Ev (fun n => Z45.c n s (R n)) ↔ Ev (fun n => R n (qAL s).1 (qAL s).2.1 (qAL s).2.2) := by
 refine Ev.suc.trans ?_
 simp only [Z45.c, Z45.w, Ev.iteI, decide_eq_true_eq]
 by_cases hl : 20000 < s.length
 ·have e : qAL s = ([], 1, 0) := by unfold qAL; rw [if_pos hl]
  rw [if_pos (by omega), e]; exact Ev.s3 R _ _ _
 ·have lp := qJg (s := s) (by omega) (z := []) s.length 0 (by omega) (by omega) [] [] qDs.nil
   (fun n y320 y321 y322 y323 => if (y323.length : Int) > 0 then (R (n + 1) ([] : List (qU)) 7 (y320.length : Int)) else (if (y322.length : Int) = 0 then (R (n + 1) ([] : List (qU)) 8 (y320.length : Int)) else (R (n + 1) y322 0 0)))
   (fun n y324 y325 y326 => R (n + 1) y326 y324 y325)
  rw [if_neg (by omega)]
  rw [show ((0 : Nat) : Int) = 0 from rfl] at lp
  refine lp.trans ?_
  unfold qAL
  rw [if_neg hl]
  cases zX s s.length 0 [] [] with
  | inl p =>
   simp only [Ev.iteI, decide_eq_true_eq]
   by_cases h1 : 0 < p.2.length
   ·rw [if_pos (by omega), if_pos h1]; exact Ev.s3 R _ _ _
   ·rw [if_neg (by omega), if_neg h1]
    by_cases h2 : p.1.length = 0
    ·rw [if_pos (by omega), if_pos h2]; exact Ev.s3 R _ _ _
    ·rw [if_neg (by omega), if_neg h2]; exact Ev.s3 R _ _ _
  | inr p => exact Ev.s3 R _ _ _
def qLM : List UInt8 -> Nat -> Option Nat
 | [], a => some a
 | c :: r, a => if 48 <= c.toNat /\ c.toNat <= 57 then qLM r (a * 10 + (c.toNat - 48)) else none
def qMP (s : List UInt8) (most : Int) : Int :=
 if s.length < 1 \/ 15 < s.length \/ (1 < s.length /\ (List.getD s 0 0).toNat = 48) then -1
 else match qLM s 0 with
  | none => -1
  | some v => if most < (v : Int) then -1 else (v : Int)
theorem qMf {s : List UInt8} (hl : s.length <= 15) {most : Int} : ∀ (m i : Nat), i + m = s.length -> ∀ a : Nat, a < 10 ^ i -> ∀ (Kx : Nat -> Int -> Int -> Prop) (Kr : Nat -> Int -> Prop),
  (Ev (fun n => Z60.l5 n s most a i (Kx n) (Kr n)) ↔ match qLM (s.drop i) a with | some v => Ev (fun n => Kx n most (v : Int)) | none => Ev (fun n => Kr n (-1)))
 | 0, i, hi, a, ha, Kx, Kr => by
  refine Ev.suc.trans ?_
  simp only [Z60.l5, Z60.l5.b]
  rw [Ev.iteI, if_neg (by simp; omega), List.drop_eq_nil_of_le (by omega)]
  exact Ev.s2 Kx _ _
 | m + 1, i, hi, a, ha, Kx, Kr => by
  have hlt : i < s.length := by omega
  have hp : 10 ^ (i + 1) <= 10 ^ 15 := Nat.pow_le_pow_right (by decide) (by omega)
  have hp2 : 10 ^ (i + 1) = 10 ^ i * 10 := Nat.pow_succ 10 i
  have hp3 : (10 : Nat) ^ 15 = 1000000000000000 := by decide
  have g : (0 : Int) <= (i : Int) /\ (i : Int) < (s.length : Int) := ⟨by omega, by omega⟩
  obtain ⟨c, ec⟩ : ∃ c, c = List.getD s i 0 := ⟨_, rfl⟩
  have hc := c.toNat_lt
  rw [qEJ hlt, <- ec, qLM]
  refine Ev.suc.trans ?_
  simp only [Z60.l5, Z60.l5.b, Int.toNat_natCast, qD g, <- ec]
  rw [Ev.iteI, if_pos (by simp; omega), qBv]
  simp only [Ev.iteI, Bool.not_eq_true', decide_eq_false_iff_not]
  by_cases hd : 48 <= c.toNat /\ c.toNat <= 57
  ·rw [if_neg (by omega), if_pos hd]
   have ih := qMf hl (most := most) m (i + 1) (by omega) (a * 10 + (c.toNat - 48)) (by omega) (fun n => Kx (n + 1)) (fun n => Kr (n + 1))
   have e1 : IntKind.wrap .u8 ((c.toNat : Int) - 48) = (c.toNat : Int) - 48 := qLc (by omega) (by omega)
   rw [e1, qC (x := (c.toNat : Int) - 48) (by omega) (by omega), qC (x := (a : Int) * 10) (by omega) (by omega), qC (by omega) (by omega), qC (x := (i : Int) + 1) (by omega) (by omega)]
   rw [show (a : Int) * 10 + ((c.toNat : Int) - 48) = ((a * 10 + (c.toNat - 48) : Nat) : Int) from by omega, show (i : Int) + 1 = ((i + 1 : Nat) : Int) from by omega]
   refine ih.trans ?_
   cases qLM (s.drop (i + 1)) (a * 10 + (c.toNat - 48)) with
   | some v => exact Ev.s2 Kx _ _
   | none => exact Ev.s1 Kr _
  ·rw [if_pos (by omega), if_neg hd]; exact Ev.s1 Kr _
theorem qJH (s : List UInt8) (most : Int) (R : Nat -> Int -> Prop) : Ev (fun n => Z60.c n s most (R n)) ↔ Ev (fun n => R n (qMP s most)) := by
 have body : s.length <= 15 -> (Ev (fun n => Z60.l5 n s most 0 0 (fun y60 y61 => if y61 > y60 then (R (n + 1) (-1)) else (R (n + 1) y61)) (fun y62 => R (n + 1) y62)) ↔ match qLM s 0 with | none => Ev (fun n => R n (-1)) | some v => if most < (v : Int) then Ev (fun n => R n (-1)) else Ev (fun n => R n (v : Int))) := fun hl => by
  refine (qMf hl s.length 0 (by omega) 0 (by decide) (fun n y60 y61 => if y61 > y60 then (R (n + 1) (-1)) else (R (n + 1) y61)) (fun n y62 => R (n + 1) y62)).trans ?_
  rw [List.drop_zero]
  cases qLM s 0 with
  | none => exact Ev.s1 R _
  | some v =>
   simp only [Ev.iteI]
   by_cases h : most < (v : Int)
   ·rw [if_pos (show (v : Int) > most from h), if_pos h]; exact Ev.s1 R _
   ·rw [if_neg (show ¬ (v : Int) > most from h), if_neg h]; exact Ev.s1 R _
 refine Ev.suc.trans ?_
 simp only [Z60.c, Z60.w, Ev.iteI, decide_eq_true_eq, decide_eq_false_iff_not]
 have fin : ∀ h : ¬ (s.length < 1 \/ 15 < s.length \/ (1 < s.length /\ (List.getD s 0 0).toNat = 48)), ((match qLM s 0 with | none => Ev (fun n => R n (-1)) | some v => if most < (v : Int) then Ev (fun n => R n (-1)) else Ev (fun n => R n (v : Int))) ↔ Ev (fun n => R n (qMP s most))) := fun h => by
  unfold qMP
  rw [if_neg h]
  cases qLM s 0 with
  | none => rfl
  | some v => simp only; split <;> rfl
 have bad : (s.length < 1 \/ 15 < s.length \/ (1 < s.length /\ (List.getD s 0 0).toNat = 48)) -> ((Ev fun n => R (n + 1) (-1)) ↔ Ev (fun n => R n (qMP s most))) := fun h => by
  unfold qMP
  rw [if_pos h]; exact Ev.s1 R _
 by_cases h1 : s.length < 1
 ·rw [if_neg (by omega)]; exact bad (.inl h1)
 ·rw [if_pos (by omega)]
  by_cases h2 : 15 < s.length
  ·rw [if_neg (by omega)]; exact bad (.inr (.inl h2))
  ·rw [if_pos (by omega)]
   by_cases h3 : 1 < s.length
   ·have g : (0 : Int) < (s.length : Int) := by omega
    rw [if_pos (by omega)]
    simp only [qT g, Ev.iteI, decide_eq_true_eq]
    by_cases h4 : (List.getD s 0 0).toNat = 48
    ·rw [if_pos (by omega)]; exact bad (.inr (.inr ⟨h3, h4⟩))
    ·rw [if_neg (by omega)]; exact (body (by omega)).trans (fin (by omega))
   ·rw [if_neg (by omega)]; exact (body (by omega)).trans (fin (by omega))
def qLa (op : Int) (len : Nat) : Bool := decide ((op = 3 /\ 3 <= len) \/ (op = 4 /\ len = 4) \/ (4 < op /\ len = 3))
def qE1 (w : List UInt8) (len : Nat) : Nat -> Int -> Int
 | 0, _ => 0
 | f + 1, op => if w = zT op /\ qLa op len = true then op else qE1 w len f (op + 1)
def opP (N : List qU) (at_ : Nat) : Int :=
 if (rd N at_).2.length = 0 then 0 else qE1 (rd N (rd (rd N at_).2 0).toNat).1 (rd N at_).2.length 7 3
theorem qPC {ks : List Int} {op : Int} (ho : 3 <= op) {N : List qU} (K0 : Nat -> Int -> Prop) (K1 : Nat -> List Int -> Int -> List qU -> Prop) :
  Ev (fun n => Z86.q8 n ks op N (K0 n) (K1 n)) ↔ if qLa op ks.length = true then Ev (fun n => K0 n op) else Ev (fun n => K1 n ks op N) := by
 refine Ev.suc.trans ?_
 simp only [Z86.q8, Z86.q8.b, Ev.iteI, decide_eq_true_eq, decide_eq_false_iff_not, Ev.s1 K0, Ev.s3 K1]
 by_cases hok : (op = 3 /\ 3 <= ks.length) \/ (op = 4 /\ ks.length = 4) \/ (4 < op /\ ks.length = 3)
 ·rw [if_pos (show qLa op ks.length = true from decide_eq_true hok)]
  (repeat' split) <;> first | rfl | (exfalso; omega)
 ·rw [if_neg (show ¬ qLa op ks.length = true from by unfold qLa; rw [decide_eq_true_eq]; exact hok)]
  (repeat' split) <;> first | rfl | (exfalso; omega)
theorem qNA {ks : List Int} {N : List qU} (hk : 1 <= ks.length) (h0 : 0 <= rd ks 0) (h1 : rd ks 0 < (N.length : Int)) : ∀ (f : Nat) (op : Int), op + f = 10 -> 3 <= op -> ∀ (Kx : Nat -> Prop) (Kr : Nat -> Int -> Prop),
  (Ev (fun n => Z86.l5 n ks op N (Kx n) (Kr n)) ↔ if qE1 (rd N (rd ks 0).toNat).1 ks.length f op = 0 then Ev Kx else Ev (fun n => Kr n (qE1 (rd N (rd ks 0).toNat).1 ks.length f op)))
 | 0, op, hf, ho, Kx, Kr => by
  refine Ev.suc.trans ?_
  simp only [Z86.l5, Z86.l5.b, qE1, if_true]
  rw [Ev.iteI, if_neg (by simp; omega)]
  exact Ev.s0 Kx
 | f + 1, op, hf, ho, Kx, Kr => by
  have ih := qNA hk h0 h1 f (op + 1) (by omega) (by omega) (fun n => Kx (n + 1)) (fun n => Kr (n + 1))
  have g1 : (0 : Int) < (ks.length : Int) := by omega
  have g2 : (0 : Int) <= rd ks 0 /\ rd ks 0 < (N.length : Int) := ⟨h0, h1⟩
  refine Ev.suc.trans ?_
  simp only [Z86.l5, Z86.l5.b, qT g1, qD g2, and_self]
  rw [Ev.iteI, if_pos (by simp; omega), qGC (by omega) (by omega)]
  simp only [Z86.j1, qC (x := op + 1) (by omega) (by omega), Ev.iteI, Bool.not_eq_true', beq_eq_false_iff_ne, ne_eq]
  rw [qPC ho (fun n y180 => Kr (n + 1) y180) (fun n y181 y182 y183 => Z86.l5 n y181 (IntKind.wrap .i64 (y182 + 1)) y183 (Kx (n + 1)) (Kr (n + 1)))]
  rw [qC (x := op + 1) (by omega) (by omega), ih, Ev.s0 Kx, Ev.s1 Kr, Ev.s1 Kr]
  by_cases hw : (rd N (rd ks 0).toNat).1 = zT op
  ·rw [if_neg (by simpa using hw)]
   by_cases hk : qLa op ks.length = true
   ·have e : qE1 (rd N (rd ks 0).toNat).1 ks.length (f + 1) op = op := by rw [qE1, if_pos ⟨hw, hk⟩]
    rw [if_pos hk, e, if_neg (show ¬ op = 0 by omega)]
   ·have e : qE1 (rd N (rd ks 0).toNat).1 ks.length (f + 1) op = qE1 (rd N (rd ks 0).toNat).1 ks.length f (op + 1) := by rw [qE1, if_neg (fun h => hk h.2)]
    rw [if_neg hk, e]
  ·have e : qE1 (rd N (rd ks 0).toNat).1 ks.length (f + 1) op = qE1 (rd N (rd ks 0).toNat).1 ks.length f (op + 1) := by rw [qE1, if_neg (fun h => hw h.1)]
   rw [if_pos hw, e]
theorem qNB {N : List qU} {at_ : Nat} (ha : at_ < N.length) (hk : ∀ k ∈ (rd N at_).2, 0 <= k /\ k < (N.length : Int)) (R : Nat -> Int -> Prop) : Ev (fun n => Z86.c n N at_ (R n)) ↔ Ev (fun n => R n (opP N at_)) := by
 have g : (0 : Int) <= (at_ : Int) /\ (at_ : Int) < (N.length : Int) := ⟨by omega, by omega⟩
 refine Ev.suc.trans ?_
 simp only [Z86.c, Z86.w, qD g, Ev.iteI, decide_eq_true_eq, Int.toNat_natCast]
 unfold opP
 by_cases h0 : (rd N at_).2.length = 0
 ·rw [if_pos (by omega), if_pos h0]; exact Ev.s1 R _
 ·have hm := hk _ (wZ (O := (rd N at_).2) (i := 0) (by omega))
  rw [if_neg (by omega), if_neg h0, qNA (by omega) hm.1 hm.2 7 3 (by omega) (by omega) (fun n => R (n + 1) 0) (fun n y => R (n + 1) y), Ev.s1 R, Ev.s1 R]
  split
  ·rename_i h; rw [h]
  ·rfl
structure qEV (N : List qU) : Prop where
 n : N.length <= 2000
 kid : ∀ i, i < N.length -> (rd N i).2.length <= N.length /\ ∀ k ∈ (rd N i).2, (i : Int) < k /\ k < (N.length : Int)
 txt : ∀ i, i < N.length -> (rd N i).1.length <= 20000
def qM0 (d : List qB) (s : List UInt8) : Int := jA (fun y => decide (y.1 = s)) d 0
def qNa (d : List qB) (s : List UInt8) (at_ : Nat) : Int × Int :=
 if (List.getD s 0 0).toNat = 35 then (if okT s = true then (0, 0) else (13, at_)) else if kR s = true then (if qM0 d s < 0 then (12, at_) else (0, 0)) else (11, at_)
def qAj (N : List qU) (self : Nat -> Int × Int) (parts : Int) : List Int -> Int -> Int × Int
 | [], _ => (0, 0)
 | k :: ks, j => if j <= parts then (if qMP (rd N k.toNat).1 4096 < 0 then (13, k) else qAj N self parts ks (j + 1))
  else if (self k.toNat).1 = 0 then qAj N self parts ks (j + 1) else self k.toNat
def qHb (N : List qU) (parts : Int) : List Int -> Int -> Bool
 | [], _ => false
 | k :: ks, j => if j <= parts then (decide ((rd N k.toNat).1 = []) || qHb N parts ks (j + 1)) else false
def qC8 (d : List qB) (N : List qU) : Nat -> Nat -> Int × Int
 | 0, _ => (0, 0)
 | f + 1, at_ => if (rd N at_).1 = [] then
   (if opP N at_ = 0 then (11, (at_ : Int)) else if qHb N (nbI (opP N at_)) ((rd N at_).2.drop 1) 1 = true then (11, (at_ : Int)) else qAj N (qC8 d N f) (nbI (opP N at_)) ((rd N at_).2.drop 1) 1)
  else qNa d (rd N at_).1 at_
theorem qJF {w : List UInt8} {len : Nat} : ∀ (f : Nat) (op : Int), 3 <= op -> op + f <= 10 -> qE1 w len f op ≠ 0 -> 3 <= qE1 w len f op /\ qE1 w len f op <= 9 /\ qLa (qE1 w len f op) len = true
 | 0, op, h3, hf, h => absurd rfl h
 | f + 1, op, h3, hf, h => by
  rw [qE1] at h ⊢
  split
  ·rename_i hc; exact ⟨h3, by omega, hc.2⟩
  ·rename_i hc
   rw [if_neg hc] at h
   exact qJF f (op + 1) (by omega) (by omega) h
theorem qMe {N : List qU} {at_ : Nat} (h : opP N at_ ≠ 0) : 3 <= opP N at_ /\ opP N at_ <= 9 /\ qLa (opP N at_) (rd N at_).2.length = true := by
 unfold opP at h ⊢
 split
 ·rename_i h0; rw [if_pos h0] at h; exact absurd rfl h
 ·rename_i h0; rw [if_neg h0] at h; exact qJF 7 3 (by omega) (by omega) h
theorem qHQ {op : Int} {len : Nat} (h : qLa op len = true) : nbI op + 1 <= (len : Int) /\ 0 <= nbI op /\ nbI op <= 2 := by
 unfold qLa at h
 rw [decide_eq_true_eq] at h
 unfold nbI
 split
 ·omega
 ·split <;> omega
theorem qKF {d : List qB} {N : List qU} {at_ : Int} {parts : Int} {ks : List Int} (hk : ∀ k ∈ ks, 0 <= k /\ k < (N.length : Int)) (hl : ks.length <= 2000) (hp : parts + 1 <= (ks.length : Int)) :
  ∀ (m j : Nat), j + m = ks.length -> ∀ (Kx : Nat -> List qB -> List Int -> Int -> List qU -> Prop) (Kr : Nat -> Int -> Int -> Prop),
  (Ev (fun n => Z77.l19 n d at_ ks parts N j (Kx n) (Kr n)) ↔ if qHb N parts (ks.drop j) j = true then Ev (fun n => Kr n 11 at_) else Ev (fun n => Kx n d ks parts N))
 | 0, j, hj, Kx, Kr => by
  refine Ev.suc.trans ?_
  simp only [Z77.l19_s, Z77.l19.b]
  rw [Ev.iteI, if_neg (by simp; omega), List.drop_eq_nil_of_le (by omega), qHb, if_neg (by decide)]
  exact Ev.s4 Kx _ _ _ _
 | m + 1, j, hj, Kx, Kr => by
  have hlt : j < ks.length := by omega
  have hm := hk _ (wZ (O := ks) (i := j) hlt)
  have hd : ks.drop j = rd ks j :: ks.drop (j + 1) := by
   rw [List.drop_eq_getElem_cons hlt, rd, List.getD_eq_getElem?_getD, List.getElem?_eq_getElem hlt]; rfl
  have ih := qKF (d := d) (at_ := at_) hk hl hp m (j + 1) (by omega) (fun n => Kx (n + 1)) (fun n => Kr (n + 1))
  have g1 : (0 : Int) <= (j : Int) /\ (j : Int) < (ks.length : Int) := ⟨by omega, by omega⟩
  refine Ev.suc.trans ?_
  simp only [Z77.l19_s, Z77.l19.b, Int.toNat_natCast, qD g1, qD hm, Ev.iteI, decide_eq_true_eq, beq_iff_eq]
  rw [hd, qHb, qC (by omega) (by omega), show (j : Int) + 1 = ((j + 1 : Nat) : Int) from by omega, ih]
  by_cases h1 : (j : Int) <= parts
  ·rw [if_pos h1, if_pos h1]
   by_cases h2 : (rd N (rd ks j).toNat).1 = []
   ·rw [if_pos h2, decide_eq_true h2, Bool.true_or, if_pos rfl]; exact Ev.s2 Kr _ _
   ·rw [if_neg h2, decide_eq_false h2, Bool.false_or]
    split
    ·exact Ev.s2 Kr _ _
    ·exact Ev.s4 Kx _ _ _ _
  ·rw [if_neg h1, if_neg h1, if_neg (by decide)]; exact Ev.s4 Kx _ _ _ _
theorem qBx {N : List qU} {self : Nat -> Int × Int} {parts : Int} : ∀ (ks : List Int) (j : Int), (qAj N self parts ks j).1 = 0 -> qAj N self parts ks j = (0, 0)
 | [], j, h => rfl
 | k :: ks, j, h => by
  rw [qAj] at h ⊢
  split
  ·rename_i h1
   rw [if_pos h1] at h
   split
   ·rename_i h2; rw [if_pos h2] at h; cases h
   ·rename_i h2; rw [if_neg h2] at h; exact qBx ks _ h
  ·rename_i h1
   rw [if_neg h1] at h
   split
   ·rename_i h2; rw [if_pos h2] at h; exact qBx ks _ h
   ·rename_i h2; rw [if_neg h2] at h; exact absurd h h2
theorem qHY {d : List qB} {N : List qU} {parts : Int} {ks : List Int} (hk : ∀ k ∈ ks, 0 <= k /\ k < (N.length : Int)) (hl : ks.length <= 2000) {self : Nat -> Int × Int}
  (hs : ∀ k ∈ ks, ∀ R : Nat -> Int -> Int -> Prop, Ev (fun n => R n (self k.toNat).1 (self k.toNat).2) -> Ev (fun n => Z77.c n d N k (R n))) :
  ∀ (m j : Nat), j + m = ks.length -> ∀ (Kx : Nat -> Prop) (Kr : Nat -> Int -> Int -> Prop),
  (if (qAj N self parts (ks.drop j) j).1 = 0 then Ev Kx else Ev (fun n => Kr n (qAj N self parts (ks.drop j) j).1 (qAj N self parts (ks.drop j) j).2)) -> Ev (fun n => Z77.l24 n d ks parts N j (Kx n) (Kr n))
 | 0, j, hj, Kx, Kr, h => by
  rw [List.drop_eq_nil_of_le (by omega), qAj, if_pos rfl] at h
  refine Ev.succ ?_
  simp only [Z77.l24_s, Z77.l24.b]
  exact Ev.neg (by simp; omega) h.shift
 | m + 1, j, hj, Kx, Kr, h => by
  have hlt : j < ks.length := by omega
  have hm := hk _ (wZ (O := ks) (i := j) hlt)
  have hd : ks.drop j = rd ks j :: ks.drop (j + 1) := by
   rw [List.drop_eq_getElem_cons hlt, rd, List.getD_eq_getElem?_getD, List.getElem?_eq_getElem hlt]; rfl
  have ih := qHY (d := d) (parts := parts) hk hl hs m (j + 1) (by omega) (fun n => Kx (n + 1)) (fun n => Kr (n + 1))
  rw [hd, qAj] at h
  have ej : (j : Int) + 1 = ((j + 1 : Nat) : Int) := by omega
  rw [ej] at h
  have next : (if (qAj N self parts (ks.drop (j + 1)) ((j + 1 : Nat) : Int)).1 = 0 then Ev Kx else Ev (fun n => Kr n (qAj N self parts (ks.drop (j + 1)) ((j + 1 : Nat) : Int)).1 (qAj N self parts (ks.drop (j + 1)) ((j + 1 : Nat) : Int)).2)) -> Ev (fun n => Z77.l24 n d ks parts N ((j + 1 : Nat) : Int) (Kx (n + 1)) (Kr (n + 1))) := fun hh => ih (by
   split
   ·rename_i hz; rw [if_pos hz] at hh; exact hh.shift
   ·rename_i hz; rw [if_neg hz] at hh; exact hh.shift)
  have g1 : (0 : Int) <= (j : Int) /\ (j : Int) < (ks.length : Int) := ⟨by omega, by omega⟩
  refine Ev.succ ?_
  simp only [Z77.l24_s, Z77.l24.b, Int.toNat_natCast, qD g1, qD hm]
  rw [qC (x := (j : Int) + 1) (by omega) (by omega), ej]
  refine Ev.pos (by simp; omega) ?_
  by_cases h1 : (j : Int) <= parts
  ·rw [if_pos h1] at h
   refine Ev.pos (decide_eq_true h1) ?_
   rw [qJH]
   by_cases h2 : qMP (rd N (rd ks j).toNat).1 4096 < 0
   ·rw [if_pos h2] at h
    rw [if_neg (show ¬ ((13 : Int), rd ks j).1 = 0 from (by decide : ¬ (13 : Int) = 0))] at h
    exact Ev.pos (decide_eq_true h2) h.shift
   ·rw [if_neg h2] at h
    exact Ev.neg (by rw [decide_eq_true_eq]; exact h2) (next h)
  ·rw [if_neg h1] at h
   refine Ev.neg (by rw [decide_eq_true_eq]; exact h1) (hs _ (wZ hlt) (fun n r162 r163 => if (!(decide (r162 = 0))) = true then (Kr (n + 1) r162 r163) else (Z77.l24 n d ks parts N ((j + 1 : Nat) : Int) (Kx (n + 1)) (Kr (n + 1)))) ?_)
   by_cases h2 : (self (rd ks j).toNat).1 = 0
   ·rw [if_pos h2] at h
    exact Ev.neg (by simp [h2]) (next h)
   ·rw [if_neg h2, if_neg h2] at h
    exact Ev.pos (by simp [h2]) h.shift
theorem qIb {d : List qB} (hd : d.length <= 1048576) {N : List qU} (hN : qEV N) : ∀ (f at_ : Nat), N.length <= at_ + f -> at_ < N.length -> ∀ R : Nat -> Int -> Int -> Prop,
  Ev (fun n => R n (qC8 d N f at_).1 (qC8 d N f at_).2) -> Ev (fun n => Z77.c n d N at_ (R n))
 | 0, at_, hf, ha, R, _ => by omega
 | f + 1, at_, hf, ha, R, h => by
  have hn := hN.n
  obtain ⟨k1, k2⟩ := hN.kid at_ ha
  have ht := hN.txt at_ ha
  have g : (0 : Int) <= (at_ : Int) /\ (at_ : Int) < (N.length : Int) := ⟨by omega, by omega⟩
  have hkk : ∀ k ∈ (rd N at_).2, 0 <= k /\ k < (N.length : Int) := fun k hk => by have := k2 k hk; omega
  rw [qC8] at h
  refine Ev.succ ?_
  simp only [Z77.c_s, Z77.w, qD g, Int.toNat_natCast]
  by_cases h0 : (rd N at_).1 = []
  ·rw [if_pos h0] at h
   refine Ev.neg (by simp [h0]) ?_
   rw [qNB ha hkk]
   by_cases hop : opP N at_ = 0
   ·rw [if_pos hop] at h
    exact Ev.pos (decide_eq_true hop) h.shift
   ·rw [if_neg hop] at h
    obtain ⟨o1, o2, o3⟩ := qMe hop
    obtain ⟨p1, p2, p3⟩ := qHQ o3
    refine Ev.neg (by rw [decide_eq_true_eq]; exact hop) ?_
    rw [wJ o1]
    have b := qKF (d := d) (at_ := (at_ : Int)) (parts := nbI (opP N at_)) hkk (by omega) p1 ((rd N at_).2.length - 1) 1 (by omega)
     (fun n y70 y71 y72 y73 => Z77.l24 n y70 y71 y72 y73 1 (R (n + 1) 0 0) (fun y166 y167 => R (n + 1) y166 y167)) (fun n y168 y169 => R (n + 1) y168 y169)
    rw [show ((1 : Nat) : Int) = 1 from rfl] at b
    rw [b]
    by_cases hb : qHb N (nbI (opP N at_)) ((rd N at_).2.drop 1) 1 = true
    ·rw [if_pos hb] at h ⊢
     exact h.shift
    ·rw [if_neg hb] at h ⊢
     have c := qHY (d := d) (parts := nbI (opP N at_)) hkk (by omega) (self := qC8 d N f) (fun k hk R hR => by
      have hk' := k2 k hk
      have e : k = ((k.toNat : Nat) : Int) := by omega
      rw [e]
      exact qIb hd hN f k.toNat (by omega) (by omega) R hR) ((rd N at_).2.length - 1) 1 (by omega) (fun n => R (n + 1) 0 0) (fun n y166 y167 => R (n + 1) y166 y167)
     rw [show ((1 : Nat) : Int) = 1 from rfl] at c
     refine c ?_
     split
     ·rename_i hz
      rw [qBx _ _ hz] at h
      exact h.shift
     ·exact h.shift
  ·have g0 : (0 : Int) < ((rd N at_).1.length : Int) := by
    have : (rd N at_).1.length ≠ 0 := fun h => h0 (List.eq_nil_of_length_eq_zero h)
    omega
   rw [if_neg h0] at h
   refine Ev.pos (by simp [h0]) ?_
   simp only [qT g0]
   unfold qNa at h
   by_cases h35 : (List.getD (rd N at_).1 0 0).toNat = 35
   ·rw [if_pos h35] at h
    refine Ev.pos (by rw [decide_eq_true_eq]; omega) (qHI (by omega) fun w l _ _ => ?_)
    by_cases hk : okT (rd N at_).1 = true
    ·rw [if_pos hk] at h
     exact Ev.neg (by simp [hk]) h.shift
    ·rw [if_neg hk] at h
     exact Ev.pos (by simpa using hk) h.shift
   ·rw [if_neg h35] at h
    refine Ev.neg (by rw [decide_eq_true_eq]; omega) ?_
    rw [qCV]
    by_cases hk : kR (rd N at_).1 = true
    ·rw [if_pos hk] at h
     refine Ev.neg (by simp [hk]) ?_
     rw [qGU hd]
     unfold qM0 at h
     by_cases hf : jA (fun y => decide (y.1 = (rd N at_).1)) d 0 < 0
     ·rw [if_pos hf] at h
      exact Ev.pos (decide_eq_true hf) h.shift
     ·rw [if_neg hf] at h
      exact Ev.neg (by rw [decide_eq_true_eq]; exact hf) h.shift
    ·rw [if_neg hk] at h
     exact Ev.pos (by simpa using hk) h.shift
def qEf (N : List qU) : Prop := ∀ i, i < N.length -> (rd N i).1.length <= 20000
theorem qEd {N : List qU} {O : List Int} (h : qDs N O) (hx : qEf N) {t : List UInt8} (ht : t.length <= 20000) : qEf (jC N O t).2 := by
 have app : qEf (N ++ [(t, ([] : List Int))]) := fun i hi => by
  by_cases hiN : i < N.length
  ·rw [qCI hiN]; exact hx i hiN
  ·have hl : (N ++ [(t, ([] : List Int))]).length = N.length + 1 := by simp
   obtain rfl : i = N.length := by omega
   have : rd (N ++ [(t, ([] : List Int))]) N.length = (t, []) := by simp [rd, List.getD_eq_getElem?_getD]
   rw [this]; exact ht
 unfold jC
 split
 ·exact hx
 ·split
  ·exact hx
  ·split
   ·exact hx
   ·show qEf (upT N O t)
    unfold upT
    split
    ·rename_i h3
     have hm := h.mem _ (wZ (O := O) (i := O.length - 1) (by omega))
     intro i hi
     rw [List.length_set] at hi
     by_cases hiu : i = (rd O (O.length - 1)).toNat
     ·subst hiu
      rw [qBo hi]; exact app _ hi
     ·rw [qBn hiu]; exact app _ hi
    ·exact app
theorem qDJ {s : List UInt8} (hl : s.length <= 20000) : ∀ (f i : Nat) (N : List qU) (O : List Int), qDs N O -> qEf N -> ∀ N' O', zX s f i N O = .inl (N', O') -> qDs N' O' /\ qEf N'
 | 0, i, N, O, h, hx, N', O', e => by
  rw [zX] at e
  simp only [Sum.inl.injEq, Prod.mk.injEq] at e
  obtain ⟨rfl, rfl⟩ := e
  exact ⟨h, hx⟩
 | f + 1, i, N, O, h, hx, N', O', e => by
  have ih := fun j N1 O1 h1 x1 e1 => qDJ hl f j N1 O1 h1 x1 N' O' e1
  rw [zX] at e
  split at e
  ·simp only [Sum.inl.injEq, Prod.mk.injEq] at e
   obtain ⟨rfl, rfl⟩ := e
   exact ⟨h, hx⟩
  ·split at e
   ·exact ih _ _ _ h hx e
   ·split at e
    ·cases e
    ·split at e
     ·exact ih _ _ _ h hx e
     ·split at e
      ·split at e
       ·cases e
       ·exact ih _ _ _ (h.cut _) hx e
      ·split at e
       ·split at e
        ·rename_i hz
         obtain ⟨b1, b2, b3⟩ := wF h []
         obtain ⟨b4, b5⟩ := b3 hz
         exact ih _ _ _ (b1.up (by omega) b5) (qEd h hx (by simp)) e
        ·cases e
       ·split at e
        ·obtain ⟨b1, b2, b3⟩ := wF h ((s.drop i).take (run zW s i))
         exact ih _ _ _ b1 (qEd h hx (by rw [List.length_take, List.length_drop]; omega)) e
        ·cases e
theorem qAv {s : List UInt8} : ∀ (f i : Nat) (N : List qU) (O : List Int) (p : Int × Int), zX s f i N O = .inr p -> p.1 ≠ 0
 | 0, i, N, O, p, e => by rw [zX] at e; cases e
 | f + 1, i, N, O, p, e => by
  have ih := fun j N1 O1 e1 => qAv (s := s) f j N1 O1 p e1
  have lit : ∀ {c a : Int}, c ≠ 0 -> (Sum.inr (c, a) : (List qU × List Int) ⊕ (Int × Int)) = .inr p -> p.1 ≠ 0 := fun hc e => by
   simp only [Sum.inr.injEq] at e
   rw [<- e]; exact hc
  rw [zX] at e
  split at e
  ·cases e
  ·split at e
   ·exact ih _ _ _ e
   ·split at e
    ·exact lit (by decide) e
    ·split at e
     ·exact ih _ _ _ e
     ·split at e
      ·split at e
       ·exact lit (by decide) e
       ·exact ih _ _ _ e
      ·split at e
       ·split at e
        ·exact ih _ _ _ e
        ·rename_i hz; exact lit hz e
       ·split at e
        ·exact ih _ _ _ e
        ·rename_i hz; exact lit hz e
theorem qLi {s : List UInt8} (h : (qAL s).2.1 = 0) : qEV (qAL s).1 /\ 0 < (qAL s).1.length := by
 unfold qAL at h ⊢
 split
 ·rename_i hl; rw [if_pos hl] at h; cases h
 ·rename_i hl
  rw [if_neg hl] at h
  cases e : zX s s.length 0 [] [] with
  | inr p =>
   rw [e] at h
   exact absurd h (qAv _ _ _ _ p e)
  | inl p =>
   rw [e] at h
   obtain ⟨t, x⟩ := qDJ (by omega) _ _ _ _ qDs.nil (fun i hi => absurd hi (Nat.not_lt_zero _)) p.1 p.2 e
   simp only at h ⊢
   split
   ·rename_i h1; rw [if_pos h1] at h; cases h
   ·rename_i h1
    rw [if_neg h1] at h
    split
    ·rename_i h2; rw [if_pos h2] at h; cases h
    ·exact ⟨⟨t.n, t.kid, x⟩, by show 0 < p.1.length; omega⟩
structure qGA (N : List qU) : Prop where
 one : ∀ i j, i < N.length -> j < N.length -> ∀ k, k ∈ (rd N i).2 -> k ∈ (rd N j).2 -> i = j
 nd : ∀ i, i < N.length -> (rd N i).2.Nodup
theorem qLh {N : List qU} {O : List Int} (h : qDs N O) (t : List UInt8) : (upT N O t).length = N.length + 1 /\ ∀ i, i < N.length + 1 ->
  (i < N.length /\ (rd (upT N O t) i).2 = (rd N i).2) \/ (i < N.length /\ i = (rd O (O.length - 1)).toNat /\ (rd (upT N O t) i).2 = (rd N i).2 ++ [(N.length : Int)]) \/ (i = N.length /\ (rd (upT N O t) i).2 = []) := by
 have hl : (N ++ [(t, ([] : List Int))]).length = N.length + 1 := by simp
 have hend : rd (N ++ [(t, ([] : List Int))]) N.length = (t, []) := by simp [rd, List.getD_eq_getElem?_getD]
 have app : ∀ i, i < N.length + 1 -> (i < N.length /\ (rd (N ++ [(t, ([] : List Int))]) i).2 = (rd N i).2) \/ (i = N.length /\ (rd (N ++ [(t, ([] : List Int))]) i).2 = []) := fun i hi => by
  by_cases hiN : i < N.length
  ·exact .inl ⟨hiN, by rw [qCI hiN]⟩
  ·obtain rfl : i = N.length := by omega
   exact .inr ⟨rfl, by rw [hend]⟩
 unfold upT
 split
 ·rename_i h3
  have hm := h.mem _ (wZ (O := O) (i := O.length - 1) (by omega))
  refine ⟨by rw [List.length_set]; exact hl, fun i hi => ?_⟩
  by_cases hiu : i = (rd O (O.length - 1)).toNat
  ·refine .inr (.inl ⟨by omega, hiu, ?_⟩)
   rw [<- hiu, qBo (by rw [hl]; omega), qCI (show i < N.length by omega)]
  ·rw [qBn hiu]
   rcases app i hi with ⟨a, b⟩ | ⟨a, b⟩
   ·exact .inl ⟨a, b⟩
   ·exact .inr (.inr ⟨a, b⟩)
 ·refine ⟨hl, fun i hi => ?_⟩
  rcases app i hi with ⟨a, b⟩ | ⟨a, b⟩
  ·exact .inl ⟨a, b⟩
  ·exact .inr (.inr ⟨a, b⟩)
theorem qEe {N : List qU} {O : List Int} (h : qDs N O) (h1 : qGA N) (t : List UInt8) : qGA (jC N O t).2 := by
 unfold jC
 split
 ·exact h1
 ·split
  ·exact h1
  ·split
   ·exact h1
   ·show qGA (upT N O t)
    obtain ⟨hl, hk⟩ := qLh h t
    have lt : ∀ i, i < N.length -> ∀ k ∈ (rd N i).2, k < (N.length : Int) := fun i hi k hk => ((h.kid i hi).2 k hk).2
    refine ⟨fun i j hi hj k ki kj => ?_, fun i hi => ?_⟩
    ·rw [hl] at hi hj
     rcases hk i hi with ⟨a, b⟩ | ⟨a, b, c⟩ | ⟨a, b⟩
     ·rw [b] at ki
      rcases hk j hj with ⟨a', b'⟩ | ⟨a', b', c'⟩ | ⟨a', b'⟩
      ·rw [b'] at kj; exact h1.one i j a a' k ki kj
      ·rw [c'] at kj
       rcases List.mem_append.1 kj with kj | kj
       ·exact h1.one i j a a' k ki kj
       ·rw [List.mem_singleton] at kj; have := lt i a k ki; omega
      ·rw [b'] at kj; cases kj
     ·rw [c] at ki
      rcases hk j hj with ⟨a', b'⟩ | ⟨a', b', c'⟩ | ⟨a', b'⟩
      ·rw [b'] at kj
       rcases List.mem_append.1 ki with ki | ki
       ·exact h1.one i j a a' k ki kj
       ·rw [List.mem_singleton] at ki; have := lt j a' k kj; omega
      ·omega
      ·rw [b'] at kj; cases kj
     ·rw [b] at ki; cases ki
    ·rw [hl] at hi
     rcases hk i hi with ⟨a, b⟩ | ⟨a, b, c⟩ | ⟨a, b⟩
     ·rw [b]; exact h1.nd i a
     ·rw [c, List.nodup_append]
      refine ⟨h1.nd i a, by simp, fun x hx y hy => ?_⟩
      rw [List.mem_singleton] at hy
      have := lt i a x hx
      omega
     ·rw [b]; exact List.nodup_nil
theorem qGA.nil : qGA [] := ⟨fun i j hi => absurd hi (Nat.not_lt_zero _), fun i hi => absurd hi (Nat.not_lt_zero _)⟩
theorem qDI {s : List UInt8} : ∀ (f i : Nat) (N : List qU) (O : List Int), qDs N O -> qGA N -> ∀ N' O', zX s f i N O = .inl (N', O') -> qGA N'
 | 0, i, N, O, h, hx, N', O', e => by
  rw [zX] at e
  simp only [Sum.inl.injEq, Prod.mk.injEq] at e
  obtain ⟨rfl, rfl⟩ := e
  exact hx
 | f + 1, i, N, O, h, hx, N', O', e => by
  have ih := fun j N1 O1 h1 x1 e1 => qDI (s := s) f j N1 O1 h1 x1 N' O' e1
  rw [zX] at e
  split at e
  ·simp only [Sum.inl.injEq, Prod.mk.injEq] at e
   obtain ⟨rfl, rfl⟩ := e
   exact hx
  ·split at e
   ·exact ih _ _ _ h hx e
   ·split at e
    ·cases e
    ·split at e
     ·exact ih _ _ _ h hx e
     ·split at e
      ·split at e
       ·cases e
       ·exact ih _ _ _ (h.cut _) hx e
      ·split at e
       ·split at e
        ·rename_i hz
         obtain ⟨b1, b2, b3⟩ := wF h []
         obtain ⟨b4, b5⟩ := b3 hz
         exact ih _ _ _ (b1.up (by omega) b5) (qEe h hx _) e
        ·cases e
       ·split at e
        ·obtain ⟨b1, b2, b3⟩ := wF h ((s.drop i).take (run zW s i))
         exact ih _ _ _ b1 (qEe h hx _) e
        ·cases e
theorem qJh {s : List UInt8} (h : (qAL s).2.1 = 0) : qGA (qAL s).1 := by
 unfold qAL at h ⊢
 split
 ·exact qGA.nil
 ·rename_i hl
  rw [if_neg hl] at h
  cases e : zX s s.length 0 [] [] with
  | inr p =>
   rw [e] at h
   exact absurd h (qAv _ _ _ _ p e)
  | inl p =>
   have t := qDI _ _ _ _ qDs.nil qGA.nil p.1 p.2 e
   simp only
   split
   ·exact qGA.nil
   ·split
    ·exact qGA.nil
    ·exact t
def qDr (N : List qU) : Nat -> Nat -> List Nat
 | 0, _ => []
 | f + 1, at_ => at_ :: (rd N at_).2.flatMap fun k => qDr N f k.toNat
theorem qBU {N : List qU} (hN : qEV N) : ∀ (f at_ : Nat), at_ < N.length -> ∀ x ∈ qDr N f at_, at_ <= x /\ x < N.length
 | 0, at_, ha, x, hx => by cases hx
 | f + 1, at_, ha, x, hx => by
  rw [qDr] at hx
  rcases List.mem_cons.1 hx with rfl | hx
  ·exact ⟨Nat.le_refl _, ha⟩
  ·obtain ⟨k, hk, hx⟩ := List.mem_flatMap.1 hx
   have := (hN.kid at_ ha).2 k hk
   have := qBU hN f k.toNat (by omega) x hx
   omega
theorem qFM {N : List qU} (hN : qEV N) : ∀ (f at_ : Nat), at_ < N.length -> ∀ x ∈ qDr N f at_, x ≠ at_ -> ∃ p ∈ qDr N f at_, p < N.length /\ (x : Int) ∈ (rd N p).2
 | 0, at_, ha, x, hx, hne => by cases hx
 | f + 1, at_, ha, x, hx, hne => by
  rw [qDr] at hx ⊢
  rcases List.mem_cons.1 hx with rfl | hx
  ·exact absurd rfl hne
  ·obtain ⟨k, hk, hx⟩ := List.mem_flatMap.1 hx
   have hk' := (hN.kid at_ ha).2 k hk
   by_cases hxk : x = k.toNat
   ·exact ⟨at_, List.mem_cons_self, ha, by rw [hxk, Int.toNat_of_nonneg (by omega)]; exact hk⟩
   ·obtain ⟨p, hp, q1, q2⟩ := qFM hN f k.toNat (by omega) x hx hxk
    exact ⟨p, List.mem_cons_of_mem _ (List.mem_flatMap.2 ⟨k, hk, hp⟩), q1, q2⟩
theorem qJN {N : List qU} (hN : qEV N) (h1 : qGA N) {at_ : Nat} (ha : at_ < N.length) {k k' : Int} (hk : k ∈ (rd N at_).2) (hk' : k' ∈ (rd N at_).2) (hne : k ≠ k') (f : Nat) : ∀ (m x : Nat), x <= m -> x ∈ qDr N f k.toNat -> x ∈ qDr N f k'.toNat -> False := by
 have q := (hN.kid at_ ha).2 k hk
 have q' := (hN.kid at_ ha).2 k' hk'
 intro m
 induction m with
 | zero =>
  intro x hx a b
  have := qBU hN f k.toNat (by omega) x a
  omega
 | succ m ih =>
  intro x hx a b
  have r := qBU hN f k.toNat (by omega) x a
  have r' := qBU hN f k'.toNat (by omega) x b
  by_cases e : x = k.toNat
  ·obtain ⟨p, p1, p2, p3⟩ := qFM hN f k'.toNat (by omega) x b (by omega)
   have ep : p = at_ := h1.one p at_ p2 ha x p3 (by rw [e, Int.toNat_of_nonneg (by omega)]; exact hk)
   have := qBU hN f k'.toNat (by omega) p p1
   omega
  ·by_cases e' : x = k'.toNat
   ·obtain ⟨p, p1, p2, p3⟩ := qFM hN f k.toNat (by omega) x a e
    have ep : p = at_ := h1.one p at_ p2 ha x p3 (by rw [e', Int.toNat_of_nonneg (by omega)]; exact hk')
    have := qBU hN f k.toNat (by omega) p p1
    omega
   ·obtain ⟨p, p1, p2, p3⟩ := qFM hN f k.toNat (by omega) x a e
    obtain ⟨p', p1', p2', p3'⟩ := qFM hN f k'.toNat (by omega) x b e'
    have ep : p = p' := h1.one p p' p2 p2' x p3 p3'
    subst ep
    have := (hN.kid p p2).2 _ p3
    exact ih p (by omega) p1 p1'
theorem qFN {N : List qU} (hN : qEV N) (h1 : qGA N) : ∀ (f at_ : Nat), at_ < N.length -> (qDr N f at_).Nodup
 | 0, at_, ha => List.nodup_nil
 | f + 1, at_, ha => by
  rw [qDr, List.nodup_cons]
  have hk := (hN.kid at_ ha).2
  refine ⟨fun hx => ?_, ?_⟩
  ·obtain ⟨k, hkm, hx⟩ := List.mem_flatMap.1 hx
   have := hk k hkm
   have := qBU hN f k.toNat (by omega) at_ hx
   omega
  ·have nd := h1.nd at_ ha
   have : ∀ ks : List Int, (∀ k ∈ ks, k ∈ (rd N at_).2) -> ks.Nodup -> (ks.flatMap fun k => qDr N f k.toNat).Nodup := by
    intro ks
    induction ks with
    | nil => intro _ _; exact List.nodup_nil
    | cons k ks ih =>
     intro hm hn
     rw [List.nodup_cons] at hn
     rw [List.flatMap_cons, List.nodup_append]
     have hkk := hm k List.mem_cons_self
     have := hk k hkk
     refine ⟨qFN hN h1 f k.toNat (by omega), ih (fun x hx => hm x (List.mem_cons_of_mem _ hx)) hn.2, fun x hx y hy e => ?_⟩
     subst e
     obtain ⟨k', hk', hy⟩ := List.mem_flatMap.1 hy
     exact qJN hN h1 ha hkk (hm k' (List.mem_cons_of_mem _ hk')) (fun e => hn.1 (by rw [e]; exact hk')) f x x (Nat.le_refl _) hx hy
   exact this _ (fun k hk => hk) nd
theorem qFH : ∀ {a b : List Nat}, a.Nodup -> (∀ x ∈ a, x ∈ b) -> a.length <= b.length
 | [], b, _, _ => Nat.zero_le _
 | x :: a, b, hn, h => by
  rw [List.nodup_cons] at hn
  have hx := h x List.mem_cons_self
  have ih := qFH (a := a) (b := b.erase x) hn.2 fun y hy => by
   have hne : y ≠ x := by rintro rfl; exact hn.1 hy
   exact (List.mem_erase_of_ne hne).2 (h y (List.mem_cons_of_mem _ hy))
  rw [List.length_erase_of_mem hx] at ih
  have := List.length_pos_of_mem hx
  rw [List.length_cons]; omega
theorem qMQ {N : List qU} (hN : qEV N) (h1 : qGA N) {f at_ : Nat} (ha : at_ < N.length) : (qDr N f at_).length <= 2000 := by
 have := qFH (qFN hN h1 f at_ ha) (b := List.range N.length) fun x hx => List.mem_range.2 (qBU hN f at_ ha x hx).2
 rw [List.length_range] at this
 have := hN.n
 omega
def qPS (d : List qB) (i : Nat) (x : qA) : Prop := Wd x.2.2.2.2.2.1 /\ x.2.2.2.2.2.1.length <= 64 /\ x.2.2.2.2.2.2.length <= 2000 /\ (∀ k ∈ x.2.2.2.2.2.2, 0 <= k /\ k < (i : Int)) /\ (x.1 = 1 -> 0 <= x.2.1 /\ x.2.1 < (d.length : Int))
def sK (T : List qA) : Nat := (T.map fun x => x.2.2.2.2.2.2.length).sum
theorem qL6 {T : List qA} {x : qA} : sK (T ++ [x]) = sK T + x.2.2.2.2.2.2.length := by simp [sK]
structure qHj (d : List qB) (T : List qA) (W : List Int) : Prop where
 w : W.length = T.length
 nod : ∀ i, i < T.length -> qPS d i (rd T i)
theorem qHj.nil (d : List qB) : qHj d [] [] := ⟨rfl, fun i hi => absurd hi (Nat.not_lt_zero _)⟩
theorem qHj.push {d : List qB} {T : List qA} {W : List Int} (h : qHj d T W) {x : qA} (hx : qPS d T.length x) (a : Int) : qHj d (T ++ [x]) (W ++ [a]) := by
 refine ⟨by simp [h.w], fun i hi => ?_⟩
 rw [List.length_append, List.length_singleton] at hi
 by_cases hl : i < T.length
 ·have : rd (T ++ [x]) i = rd T i := by rw [rd, rd, List.getD_eq_getElem?_getD, List.getD_eq_getElem?_getD, List.getElem?_append_left hl]
  rw [this]; exact h.nod i hl
 ·obtain rfl : i = T.length := by omega
  have : rd (T ++ [x]) T.length = x := by simp [rd, List.getD_eq_getElem?_getD]
  rw [this]; exact hx
theorem qEC {N : List qU} {self : Nat -> Int × Int} {parts : Int} : ∀ (ks : List Int) (j : Int), (qAj N self parts ks j).1 = 0 -> ∀ i, i < ks.length -> parts < j + i -> (self (rd ks i).toNat).1 = 0
 | [], j, h, i, hi, _ => absurd hi (Nat.not_lt_zero _)
 | k :: ks, j, h, i, hi, hp => by
  rw [qAj] at h
  cases i with
  | zero =>
   rw [if_neg (by omega)] at h
   show (self k.toNat).1 = 0
   split at h
   ·assumption
   ·exact h
  | succ i =>
   show (self (rd ks i).toNat).1 = 0
   have hi' : i < ks.length := by simpa using hi
   split at h
   ·split at h
    ·cases h
    ·exact qEC ks (j + 1) h i hi' (by omega)
   ·split at h
    ·exact qEC ks (j + 1) h i hi' (by omega)
    ·rename_i hz; exact absurd h hz
theorem qND {d : List qB} {N : List qU} (hn : N.length <= 2000) {ks : List Int} (hk : ∀ k ∈ ks, 0 <= k /\ k < (N.length : Int)) (hl : ks.length <= 2000) {f : Nat} {lo : Nat} {x53 : Int} {x56 : List Int} {x61 x62 x63 x64 x65 : Int}
  (hs : ∀ i, lo <= i -> i < ks.length -> ∀ (T : List qA) (W : List Int), qHj d T W -> T.length + (qDr N f (rd ks i).toNat).length <= 100000 -> ∀ R : Nat -> Int -> List qA -> List Int -> Prop,
   (∀ T' W', qHj d T' W' -> T.length < T'.length -> T'.length <= T.length + (qDr N f (rd ks i).toNat).length -> sK T' + T.length + 1 <= sK T + T'.length -> Ev (fun n => R n ((T'.length : Int) - 1) T' W')) -> Ev (fun n => Z83.c n T W d N (rd ks i) (R n))) :
  ∀ (m j : Nat), j + m = ks.length -> lo <= j -> ∀ (T : List qA) (W out : List Int), qHj d T W -> (∀ k ∈ out, 0 <= k /\ k < (T.length : Int)) -> out.length <= j -> T.length + ((ks.drop j).flatMap fun k => qDr N f k.toNat).length <= 100000 ->
  ∀ Kx : Nat -> Int -> List Int -> List qA -> List Int -> List Int -> Int -> Int -> Int -> Int -> Int -> Prop,
  (∀ T' W' out', qHj d T' W' -> (∀ k ∈ out', 0 <= k /\ k < (T'.length : Int)) -> out'.length <= 2000 -> T.length <= T'.length -> T'.length <= T.length + ((ks.drop j).flatMap fun k => qDr N f k.toNat).length -> sK T' + out'.length + T.length <= sK T + out.length + T'.length -> Ev (fun n => Kx n x53 x56 T' W' out' x61 x62 x63 x64 x65)) ->
  Ev (fun n => Z83.l17 n d x53 ks x56 N x61 x62 x63 x64 x65 j T W out (Kx n))
 | 0, j, hj, hlo, T, W, out, h, ho, hol, hb, Kx, hK => by
  refine Ev.succ ?_
  simp only [Z83.l17_s, Z83.l17.b]
  exact Ev.neg (by simp; omega) (hK T W out h ho (by omega) (Nat.le_refl _) (Nat.le_add_right _ _) (Nat.le_refl _)).shift
 | m + 1, j, hj, hlo, T, W, out, h, ho, hol, hb, Kx, hK => by
  have hlt : j < ks.length := by omega
  have hd : ks.drop j = rd ks j :: ks.drop (j + 1) := by
   rw [List.drop_eq_getElem_cons hlt, rd, List.getD_eq_getElem?_getD, List.getElem?_eq_getElem hlt]; rfl
  rw [hd, List.flatMap_cons, List.length_append] at hb hK
  have ej : IntKind.wrap .i64 ((j : Int) + 1) = ((j + 1 : Nat) : Int) := by rw [qC (by omega) (by omega)]; omega
  refine Ev.succ ?_
  simp only [Z83.l17_s, Z83.l17.b, and_self, Int.toNat_natCast, ej]
  refine Ev.pos (by simp; omega) (Ev.grd (by simp; omega) ?_)
  refine hs j hlo hlt T W h (by omega) (fun n r75 r76 r77 => grd (decide (out.length + ([r75] : List Int).length <= 7818749353073)) (Z83.l17 n d x53 ks x56 N x61 x62 x63 x64 x65 ((j + 1 : Nat) : Int) r76 r77 (out ++ [r75]) (Kx (n + 1)))) fun T' W' h' b1 b2 b3 => ?_
  refine Ev.grd (by simp; omega) ?_
  refine qND hn hk hl hs m (j + 1) (by omega) (by omega) T' W' (out ++ [(T'.length : Int) - 1]) h' (fun k hk => ?_) (by simp; omega) (by omega) (fun n => Kx (n + 1)) fun T2 W2 out2 h2 o2 l2 c1 c2 c3 => (hK T2 W2 out2 h2 o2 l2 (by omega) (by omega) (by rw [List.length_append, List.length_singleton] at c3; omega)).shift
  rcases List.mem_append.1 hk with hk | hk
  ·have := ho k hk; omega
  ·rw [List.mem_singleton] at hk; subst hk; omega
theorem qDZ {α : Type} {p : α -> Bool} : ∀ {l : List α} {x : Int}, 0 <= x -> 0 <= jA p l x -> jA p l x < x + l.length
 | [], x, hx, h => by rw [jA] at h; exact absurd h (by decide)
 | y :: ys, x, hx, h => by
  rw [jA] at h ⊢
  split
  ·simp; omega
  ·rename_i hy
   rw [if_neg hy] at h
   have := qDZ (l := ys) (x := x + 1) (by omega) h
   simp; omega
theorem qMY {g : Int -> List Nat} (ks : List Int) (j : Nat) : ((ks.drop j).flatMap g).length <= (ks.flatMap g).length := by
 conv => rhs; rw [<- List.take_append_drop j ks]
 rw [List.flatMap_append, List.length_append]
 omega
theorem qLn (l : List Int) (j i : Nat) : rd (l.drop j) i = rd l (j + i) := by
 rw [rd, rd, List.getD_eq_getElem?_getD, List.getD_eq_getElem?_getD, List.getElem?_drop]
theorem qJP {d : List qB} (hd : d.length <= 1048576) {N : List qU} (hN : qEV N) : ∀ (f at_ : Nat), N.length <= at_ + f -> at_ < N.length -> (qC8 d N f at_).1 = 0 -> ∀ (T : List qA) (W : List Int), qHj d T W -> T.length + (qDr N f at_).length <= 100000 -> ∀ R : Nat -> Int -> List qA -> List Int -> Prop,
  (∀ T' W', qHj d T' W' -> T.length < T'.length -> T'.length <= T.length + (qDr N f at_).length -> sK T' + T.length + 1 <= sK T + T'.length -> Ev (fun n => R n ((T'.length : Int) - 1) T' W')) -> Ev (fun n => Z83.c n T W d N at_ (R n))
 | 0, at_, hf, ha, hc, T, W, h, hb, R, hR => by omega
 | f + 1, at_, hf, ha, hc, T, W, h, hb, R, hR => by
  have hn := hN.n
  obtain ⟨k1, k2⟩ := hN.kid at_ ha
  have ht := hN.txt at_ ha
  have g : (0 : Int) <= (at_ : Int) /\ (at_ : Int) < (N.length : Int) := ⟨by omega, by omega⟩
  have hkk : ∀ k ∈ (rd N at_).2, 0 <= k /\ k < (N.length : Int) := fun k hk => by have := k2 k hk; omega
  have hml : (qDr N (f + 1) at_).length = 1 + ((rd N at_).2.flatMap fun k => qDr N f k.toNat).length := by rw [qDr, List.length_cons]; omega
  rw [hml] at hb hR
  have hw := h.w
  rw [qC8] at hc
  refine Ev.succ ?_
  simp only [Z83.c_s, Z83.w, qD g, Int.toNat_natCast]
  have one : ∀ x : qA, qPS d T.length x -> x.2.2.2.2.2.2.length = 0 -> Ev (fun n => grd (decide (T.length + ([x] : List qA).length <= 790660046940)) (grd (decide (W.length + ([(at_ : Int)] : List Int).length <= 7818749353073)) (R (n + 1) (IntKind.wrap .i64 (((T ++ [x]).length : Int) - 1)) (T ++ [x]) (W ++ [(at_ : Int)])))) := fun x hx hx0 => by
   have hl : (T ++ [x]).length = T.length + 1 := by simp
   refine Ev.grd (by simp; omega) (Ev.grd (by simp; omega) ?_)
   rw [qC (by omega) (by omega)]
   exact (hR (T ++ [x]) (W ++ [(at_ : Int)]) (h.push hx _) (by omega) (by omega) (by rw [qL6]; omega)).shift
  by_cases h0 : (rd N at_).1 = []
  ·rw [if_pos h0] at hc
   by_cases hop : opP N at_ = 0
   ·rw [if_pos hop] at hc; cases hc
   ·rw [if_neg hop] at hc
    by_cases hbare : qHb N (nbI (opP N at_)) ((rd N at_).2.drop 1) 1 = true
    ·rw [if_pos hbare] at hc; cases hc
    ·rw [if_neg hbare] at hc
     obtain ⟨o1, o2, o3⟩ := qMe hop
     obtain ⟨p1, p2, p3⟩ := qHQ o3
     refine Ev.neg (by simp [h0]) ?_
     simp only [Z83.j6]
     refine Ev.neg (by decide) (Ev.neg (by simp [h0]) ?_)
     rw [qNB ha hkk]
     refine Ev.grd (by simp; omega) ?_
     rw [wJ o1]
     have j4 : ∀ A B : Int, Ev (fun n => Z83.j4 (R (n + 1)) T W d N at_ A (Z83.l17 n) (opP N at_) (nbI (opP N at_)) B) := fun A B => by
      simp only [Z83.j4, Z83.j3, and_self, Int.toNat_natCast]
      obtain ⟨pn, epn⟩ : ∃ pn : Nat, nbI (opP N at_) = (pn : Int) := ⟨(nbI (opP N at_)).toNat, by omega⟩
      have e1 : IntKind.wrap .i64 (1 + nbI (opP N at_)) = ((1 + pn : Nat) : Int) := by rw [qC (by omega) (by omega)]; omega
      rw [e1]
      have hfd := qMY (g := fun k => qDr N f k.toNat) (rd N at_).2 (1 + pn)
      refine qND (d := d) hn hkk (by omega) (f := f) (lo := 1 + pn) (fun i hi1 hi2 T1 W1 m1 c1 R1 hR1 => ?_) ((rd N at_).2.length - (1 + pn)) (1 + pn) (by omega) (Nat.le_refl _) T W [] h (fun k hk => by cases hk) (Nat.zero_le _) (by omega)
       (fun n y132 y133 y134 y135 y136 y137 y138 y139 y140 y141 => grd (decide (y134.length + ([(y137, y138, y139, y140, y141, y133, y136)] : List qA).length <= 790660046940)) (grd (decide (y135.length + ([y132] : List Int).length <= 7818749353073)) (R (n + 1) (IntKind.wrap .i64 (((y134 ++ [(y137, y138, y139, y140, y141, y133, y136)]).length : Int) - 1)) (y134 ++ [(y137, y138, y139, y140, y141, y133, y136)]) (y135 ++ [y132])))) fun T' W' out' m' ok' l' b1 b2 b3 => ?_
      ·have hki := k2 _ (wZ hi2)
       have hz := qEC _ _ hc (i - 1) (by rw [List.length_drop]; omega) (by omega)
       have er : rd ((rd N at_).2.drop 1) (i - 1) = rd (rd N at_).2 i := by rw [qLn, show 1 + (i - 1) = i from by omega]
       rw [er] at hz
       have e2 : rd (rd N at_).2 i = (((rd (rd N at_).2 i).toNat : Nat) : Int) := by omega
       have := qJP hd hN f (rd (rd N at_).2 i).toNat (by omega) (by omega) hz T1 W1 m1 c1 R1 hR1
       rw [<- e2] at this
       exact this
      ·have hw' := m'.w
       have hl : (T' ++ [((opP N at_, 0, A, B, 0, [], out') : qA)]).length = T'.length + 1 := by simp
       refine Ev.grd (by simp; omega) (Ev.grd (by simp; omega) ?_)
       rw [qC (by omega) (by omega)]
       refine (hR _ (W' ++ [(at_ : Int)]) (m'.push (x := (opP N at_, 0, A, B, 0, [], out')) ⟨Wd.nil, Nat.zero_le _, l', ok', fun e => ?_⟩ _) (by omega) (by omega) (by rw [qL6]; rw [List.length_nil] at b3; show sK T' + out'.length + T.length + 1 <= _; omega)).shift
       have e' : opP N at_ = 1 := e
       omega
     refine Ev.ite (fun hp => ?_) fun hp => ?_
     ·have hp' := of_decide_eq_true hp
      have m1 := hkk _ (wZ (O := (rd N at_).2) (i := 1) (by omega))
      refine Ev.grd (by simp; omega) (Ev.grd (by simp; omega) ?_)
      rw [qJH]
      simp only [Z83.j5]
      refine Ev.ite (fun hq => ?_) fun hq => j4 _ _
      have hq' := of_decide_eq_true hq
      have m2 := hkk _ (wZ (O := (rd N at_).2) (i := 2) (by omega))
      simp only [Int.toNat_natCast]
      refine Ev.grd (by simp; omega) (Ev.grd (by simp; omega) ?_)
      rw [qJH]
      exact j4 _ _
     ·simp only [Z83.j5]
      refine Ev.ite (fun hq => ?_) fun hq => j4 _ _
      have hq' := of_decide_eq_true hq
      exact absurd (decide_eq_true (by omega)) hp
  ·have g0 : (0 : Int) < ((rd N at_).1.length : Int) := by
    have : (rd N at_).1.length ≠ 0 := fun h => h0 (List.eq_nil_of_length_eq_zero h)
    omega
   rw [if_neg h0] at hc
   unfold qNa at hc
   refine Ev.pos (by simp [h0]) ?_
   simp only [qT g0, Z83.j6, and_self, Int.toNat_natCast]
   refine Ev.ite (fun h35 => ?_) fun h35 => ?_
   ·exact qHI (by omega) fun w l hl1 hl2 => one (2, 0, 0, 0, w, l, []) ⟨hl1, hl2, Nat.zero_le _, fun k hk => (List.not_mem_nil hk).elim, fun e => absurd e (by decide : ¬ (2 : Int) = 1)⟩ rfl
   ·have h35' : ¬ (List.getD (rd N at_).1 0 0).toNat = 35 := fun e => h35 (decide_eq_true (by omega))
    rw [if_neg h35'] at hc
    refine Ev.pos (by simp [h0]) ?_
    rw [qGU hd]
    have hx : 0 <= jA (fun y => decide (y.1 = (rd N at_).1)) d 0 := by
     unfold qM0 at hc
     split at hc
     ·split at hc
      ·cases hc
      ·omega
     ·cases hc
    have hx2 := qDZ (p := fun y : qB => decide (y.1 = (rd N at_).1)) (l := d) (x := 0) (by omega) hx
    exact one (1, _, 0, 0, 0, [], []) ⟨Wd.nil, Nat.zero_le _, Nat.zero_le _, fun k hk => (List.not_mem_nil hk).elim, fun _ => ⟨hx, by show jA _ d 0 < _; omega⟩⟩ rfl
theorem qHq {d : List qB} {wide ks words : List Int} {op var A B width : Int} (hk : ∀ k ∈ ks, 0 <= k /\ k < (wide.length : Int)) (hl : ks.length <= 2000) : ∀ (m i : Nat), i + m = ks.length -> ∀ (x : Int) (Kx : Nat -> List qB -> Int -> Int -> Int -> Int -> Int -> Int -> List Int -> List Int -> Prop),
  (∀ x', Ev (fun n => Kx n d x' op var A B width words ks)) -> Ev (fun n => Z92.l3 n d wide op var A B width words ks x i (Kx n))
 | 0, i, hi, x, Kx, h => by
  refine Ev.succ ?_
  simp only [Z92.l3, Z92.l3.b]
  exact Ev.neg (by simp; omega) (h x).shift
 | m + 1, i, hi, x, Kx, h => by
  have hm := hk _ (wZ (O := ks) (i := i) (by omega))
  have e1 : IntKind.wrap .i64 ((i : Int) + 1) = ((i + 1 : Nat) : Int) := by rw [qC (by omega) (by omega)]; omega
  refine Ev.succ ?_
  simp only [Z92.l3, Z92.l3.b, Int.toNat_natCast, e1]
  refine Ev.pos (by simp; omega) (Ev.grd (by simp; omega) (Ev.grd (by simp; omega) ?_))
  exact qHq hk hl m (i + 1) (by omega) _ (fun n => Kx (n + 1)) fun x' => (h x').shift
theorem qLg {d : List qB} {wide ks words : List Int} {op var A B width : Int} (hk : ∀ k ∈ ks, 0 <= k /\ k < (wide.length : Int)) (hl : ks.length <= 2000) (hv : op = 1 -> 0 <= var /\ var < (d.length : Int)) {R : Nat -> Int -> Prop} (h : ∀ r, Ev (fun n => R n r)) :
  Ev (fun n => Z92.c n d op var A B width words ks wide (R n)) := by
 refine Ev.succ ?_
 simp only [Z92.c, Z92.w]
 have h' : ∀ r, Ev (fun n => R (n + 1) r) := fun r => (h r).shift
 have j2 : ∀ (a b c : Int) (v : Bool), Ev (fun n => Z92.j2 (R (n + 1)) n a b c v) := fun a b c v => by
  simp only [Z92.j2]
  refine Ev.ite (fun _ => ?_) fun _ => Ev.ite (fun _ => ?_) fun _ => h' _
  ·rw [vK]; exact Ev.ite (fun _ => h' _) fun _ => h' _
  ·rw [vK]; exact Ev.ite (fun _ => h' _) fun _ => h' _
 have j3 : ∀ (a b c : Int) (v : Bool), Ev (fun n => Z92.j3 (R (n + 1)) n a b c v) := fun a b c v => by
  simp only [Z92.j3]
  refine Ev.ite (fun _ => ?_) fun _ => Ev.ite (fun _ => j2 _ _ _ _) fun _ => j2 _ _ _ _
  rw [vK]; exact Ev.ite (fun _ => h' _) fun _ => h' _
 refine qHq hk hl ks.length 0 (by omega) 0 (fun n y45 y46 y47 y48 y49 y50 y51 y52 y53 => if (decide (y47 = 1)) = true then (grd (decide (0 <= y48) && decide (y48 < (y45.length : Int))) (R (n + 1) ((rd y45 (Int.toNat y48)).2))) else (if (decide (y47 = 2)) = true then (R (n + 1) y51) else (if (decide (y47 = 4)) = true then (if (decide (y50 < 0)) = false then (if (decide (y49 < y50)) = false then (if (decide (y49 >= y46)) = true then (R (n + 1) (-1)) else (R (n + 1) (IntKind.wrap .i64 ((IntKind.wrap .i64 (y49 - y50)) + 1)))) else (R (n + 1) (-1))) else (R (n + 1) (-1))) else (if (decide (y47 = 5)) = true then (Z92.j3 (R (n + 1)) n y46 y47 y49 true) else (Z92.j3 (R (n + 1)) n y46 y47 y49 (decide (y47 = 6))))))) fun x' => ?_
 refine Ev.ite (fun h1 => ?_) fun _ => Ev.ite (fun _ => h' _) fun _ => Ev.ite (fun _ => Ev.ite (fun _ => Ev.ite (fun _ => Ev.ite (fun _ => h' _) fun _ => h' _) fun _ => h' _) fun _ => h' _) fun _ => Ev.ite (fun _ => j3 _ _ _ _) fun _ => j3 _ _ _ _
 have := hv (of_decide_eq_true h1)
 exact Ev.grd (by simp; omega) (h' _)
def DTm (t : List qA) : Prop := t.length <= 400 /\ sK t <= 400 /\ ∀ x ∈ t, Wd x.2.2.2.2.2.1 /\ x.2.2.2.2.2.1.length <= 64 /\ x.2.2.2.2.2.2.length <= 2000
theorem DTm.nil : DTm [] := ⟨Nat.zero_le _, Nat.zero_le _, fun x hx => (List.not_mem_nil hx).elim⟩
theorem qHj.dtm {d : List qB} {T : List qA} {W : List Int} (h : qHj d T W) (hl : T.length <= 400) (hk : sK T <= 400) : DTm T := ⟨hl, hk, fun x hx => by
 obtain ⟨i, hi, rfl⟩ := List.getElem_of_mem hx
 have := h.nod i hi
 have e : rd T i = T[i] := by rw [rd, List.getD_eq_getElem?_getD, List.getElem?_eq_getElem hi]; rfl
 rw [e] at this
 exact ⟨this.1, this.2.1, this.2.2.1⟩⟩
theorem qJi {d : List qB} {T : List qA} {W : List Int} (h : qHj d T W) (hl : T.length <= 400) {z z2 : List qA} : ∀ (m i : Nat), i + m = T.length -> ∀ wide : List Int, wide.length = i -> ∀ (Kx : Nat -> List qA -> List qA -> List Int -> Prop) (Kr : Nat -> Int -> Int -> List qA -> Prop),
  Ev (fun n => Kx n z2 T W) -> (∀ c a, Ev (fun n => Kr n c a z)) -> Ev (fun n => Z90.l11 n d z z2 T W i wide (Kx n) (Kr n))
 | 0, i, hi, wide, hw, Kx, Kr, hx, hr => by
  refine Ev.succ ?_
  simp only [Z90.l11, Z90.l11.b]
  exact Ev.neg (by simp; omega) hx.shift
 | m + 1, i, hi, wide, hw, Kx, Kr, hx, hr => by
  have hh := h.nod i (by omega)
  have hW := h.w
  have e1 : IntKind.wrap .i64 ((i : Int) + 1) = ((i + 1 : Nat) : Int) := by rw [qC (by omega) (by omega)]; omega
  refine Ev.succ ?_
  simp only [Z90.l11, Z90.l11.b, Int.toNat_natCast, e1, and_self]
  refine Ev.pos (by simp; omega) (Ev.grd (by simp; omega) (qLg (fun k hk => by have := hh.2.2.2.1 k hk; omega) hh.2.2.1 hh.2.2.2.2 fun r => Ev.ite (fun _ => Ev.grd (by simp; omega) (hr _ _).shift) fun _ => Ev.ite (fun _ => Ev.grd (by simp; omega) (hr _ _).shift) fun _ => Ev.grd (by simp; omega) ?_))
  exact qJi h hl m (i + 1) (by omega) _ (by simp; omega) (fun n => Kx (n + 1)) (fun n => Kr (n + 1)) hx.shift fun c a => (hr c a).shift
theorem qMz {d : List qB} (hd : d.length <= 1048576) {N : List qU} (hN : qEV N) (h1 : qGA N) (h0 : 0 < N.length) {R : Nat -> List qA -> Int -> Int -> Prop} (h : ∀ t c a, DTm t -> Ev (fun n => R n t c a)) : Ev (fun n => Z90.c n d N 0 (R n)) := by
 have h' : ∀ t c a, DTm t -> Ev (fun n => R (n + 1) t c a) := fun t c a ht => (h t c a ht).shift
 have hc := qIb hd hN N.length 0 (by omega) h0
 have hm := fun hz => qJP hd hN N.length 0 (by omega) h0 hz [] [] (qHj.nil d) (by have := qMQ hN h1 (f := N.length) h0; simp; omega)
 rw [show ((0 : Nat) : Int) = 0 from rfl] at hc hm
 refine Ev.succ ?_
 simp only [Z90.c, Z90.w]
 refine hc _ (Ev.ite (fun _ => h' _ _ _ DTm.nil) fun hz => hm (by simpa using hz) _ fun T' W' m' _ _ b3 => Ev.ite (fun _ => h' _ _ _ DTm.nil) fun hl => ?_)
 have hl' : T'.length <= 400 := by simp at hl; omega
 have hk' : sK T' <= 400 := by
  have e : sK ([] : List qA) = 0 := rfl
  rw [e, List.length_nil] at b3; omega
 exact qJi m' hl' T'.length 0 (by omega) [] rfl (fun n y37 y38 y39 => R (n + 1) y38 0 0) (fun n y40 y41 y42 => R (n + 1) y42 y40 y41) (h' _ _ _ (m'.dtm hl' hk')) fun c a => h' _ _ _ DTm.nil
theorem qCH {d : List qB} (hd : d.length <= 1048576) (s : List UInt8) {R : Nat -> List qA -> Int -> Int -> Prop} (h : ∀ t c a, DTm t -> Ev (fun n => R n t c a)) : Ev (fun n => Z44.c n d s (R n)) := by
 have h' : ∀ t c a, DTm t -> Ev (fun n => R (n + 1) t c a) := fun t c a ht => (h t c a ht).shift
 refine Ev.succ ?_
 simp only [Z44.c, Z44.w]
 rw [qGN]
 refine Ev.ite (fun _ => h' _ _ _ DTm.nil) fun hz => ?_
 have hz' : (qAL s).2.1 = 0 := by simpa using hz
 obtain ⟨t1, t2⟩ := qLi hz'
 rw [kW]
 exact Ev.ite (fun _ => h' _ _ _ DTm.nil) fun _ => qMz hd t1 (qJh hz') t2 h'
def qGu (s : List qF) (l : qE) : List qF := List.set s (s.length - 1) ((rd s (s.length - 1)).1, (rd s (s.length - 1)).2 ++ [l])
theorem qKG {d : List qB} {s : List qF} {next : Int} {a : Bool} {lt rt : List UInt8} (hd : d.length <= 1048576) (hs : s.length + qV s <= 1048576) (hg : ∀ y ∈ s, qI2 y.2)
  (hok : jQ d s next = true -> 1 <= s.length /\ 1 <= next /\ next <= 1000000) {R : Nat -> List qB -> List qF -> Int -> Int -> Int -> Prop}
  (hn : ∀ d' s' n' i c, c ≠ 0 -> Ev (fun n => R n d' s' n' i c)) (h : ∀ t1 t2, DTm t1 -> DTm t2 -> 1 <= s.length -> next < 1000000 -> Ev (fun n => R n d (qGu s (next, a, t1, t2)) (next + 1) next 0)) :
  Ev (fun n => Z34.c n d s next a lt rt (R n)) := by
 have ha := wW (s := s)
 have hn' : ∀ d' s' n' i c, c ≠ 0 -> Ev (fun n => R (n + 1) d' s' n' i c) := fun d' s' n' i c hc => (hn d' s' n' i c hc).shift
 refine Ev.succ ?_
 simp only [Z34.c, Z34.w]
 rw [kG (by omega) (by omega) (by omega) hg]
 refine Ev.ite (fun _ => hn' _ _ _ _ _ (by decide)) fun hk => ?_
 have hk' : jQ d s next = true := by simpa using hk
 obtain ⟨k1, k2, k3⟩ := hok hk'
 rw [wO hd hs]
 refine qCH hd lt fun t1 c1 p1 h1 => qCH hd rt fun t2 c2 p2 h2 => Ev.ite (fun _ => Ev.ite (fun _ => hn' _ _ _ _ _ (by decide)) fun _ => ?_) fun _ => hn' _ _ _ _ _ (by decide)
 have g1 : ∀ x ∈ t1, Wd x.2.2.2.2.2.1 /\ x.2.2.2.2.2.2.length <= 1099511627776 := fun x hx => ⟨(h1.2.2 x hx).1, by have := (h1.2.2 x hx).2.2; omega⟩
 have g2 : ∀ x ∈ t2, Wd x.2.2.2.2.2.1 /\ x.2.2.2.2.2.2.length <= 1099511627776 := fun x hx => ⟨(h2.2.2 x hx).1, by have := (h2.2.2 x hx).2.2; omega⟩
 simp only [Z34.j2, and_self]
 rw [vP (by omega) g1, vP (by omega) g2]
 simp only [Z34.j1]
 refine Ev.ite (fun _ => hn' _ _ _ _ _ (by decide)) fun _ => ?_
 refine Ev.succ ?_
 simp only [Z34.q10, Z34.q10.b]
 rw [qNc hs]
 refine Ev.ite (fun _ => Ev.ite (fun _ => (hn' _ _ _ _ _ (by decide)).shift (P := fun n => R (n + 1) d s next 0 5)) fun hm => ?_) fun _ => (hn' _ _ _ _ _ (by decide)).shift (P := fun n => R (n + 1) d s next 0 5)
 have hm' : next < 1000000 := by
  have : ¬ next = 1000000 := by simpa using hm
  omega
 have e1 : IntKind.wrap .i64 ((s.length : Int) - 1) = ((s.length - 1 : Nat) : Int) := by rw [qC (by omega) (by omega)]; omega
 have e2 : IntKind.wrap .i64 (next + 1) = next + 1 := qC (by omega) (by omega)
 have hlast : (rd s (s.length - 1)).2.length <= 1048576 := by
  have hmem : rd s (s.length - 1) ∈ s := by
   rw [rd, List.getD_eq_getElem?_getD, List.getElem?_eq_getElem (show s.length - 1 < s.length by omega)]
   exact List.getElem_mem _
  have := wA hmem
  omega
 have g3 : (0 : Int) <= ((s.length - 1 : Nat) : Int) /\ ((s.length - 1 : Nat) : Int) < (s.length : Int) := ⟨by omega, by omega⟩
 have g4 : ∀ l : qE, (rd s (s.length - 1)).2.length + ([l] : List qE).length <= 1082596064271 := fun l => by simp; omega
 simp only [Z34.j0, e1, e2, Int.toNat_natCast, qD g3, qT (g4 _), decide_true, and_self]
 simp only [grd, and_self]
 exact ((h t1 t2 h1 h2 k1 hm').shift).shift
structure SG (k : Nat) (d : List qB) (s : List qF) (next : Int) : Prop where
 hd : d.length <= k
 hw : ∀ x ∈ d, 1 <= x.2 /\ x.2 <= 200
 hz : s.length + qV s <= 60000 * k + 1
 hg : ∀ y ∈ s, qI2 y.2
 hn : 1 <= next /\ next <= (k : Int) + 1
 hs : 1 <= s.length
theorem SG.begin : SG 0 [] [((0 : Int), [])] 1 := ⟨Nat.le_refl _, fun x hx => (List.not_mem_nil hx).elim, by decide, fun y hy => by
 rw [List.mem_singleton] at hy; subst hy
 exact fun l hl => (List.not_mem_nil hl).elim, by omega, by decide⟩
theorem SG.next {k : Nat} {d : List qB} {s : List qF} {next : Int} (h : SG k d s next) : SG (k + 1) d s next :=
 ⟨Nat.le_succ_of_le h.hd, h.hw, by have := h.hz; omega, h.hg, ⟨h.hn.1, by have := h.hn.2; omega⟩, h.hs⟩
theorem SG.decl {k : Nat} {d : List qB} {s : List qF} {next : Int} (h : SG k d s next) {z : List UInt8} {w : Int} (hw : 1 <= w /\ w <= 200) (hc : (zR d s next z w).2 = 0) :
  SG (k + 1) (zR d s next z w).1.1 (zR d s next z w).1.2.1 (zR d s next z w).1.2.2 := by
 have e : zR d s next z w = ((d ++ [(z, w)], s, next), 0) := by
  unfold zR at hc ⊢
  split
  ·rename_i h1
   rw [if_pos h1] at hc
   split
   ·rename_i h2; rw [if_pos h2] at hc; cases hc
   ·rename_i h2
    rw [if_neg h2] at hc
    split
    ·rename_i h3; rw [if_pos h3] at hc; cases hc
    ·rename_i h3
     rw [if_neg h3] at hc
     split
     ·rename_i h4; rw [if_pos h4] at hc; cases hc
     ·rename_i h4
      rw [if_neg h4] at hc
      split
      ·rename_i h5; rw [if_pos h5] at hc; cases hc
      ·rfl
  ·rename_i h1; rw [if_neg h1] at hc; cases hc
 rw [e]
 show SG (k + 1) (d ++ [(z, w)]) s next
 refine ⟨by have := h.hd; simp; omega, fun x hx => ?_, by have := h.hz; omega, h.hg, ⟨h.hn.1, by have := h.hn.2; omega⟩, h.hs⟩
 rcases List.mem_append.1 hx with hx | hx
 ·exact h.hw x hx
 ·rw [List.mem_singleton] at hx; subst hx; exact hw
theorem SG.push {k : Nat} {d : List qB} {s : List qF} {next : Int} (h : SG k d s next) (hc : (xO d s next).2 = 0) :
  SG (k + 1) (xO d s next).1.1 (xO d s next).1.2.1 (xO d s next).1.2.2 := by
 have e : xO d s next = ((d, s ++ [((d.length : Int), [])], next), 0) := by
  unfold xO at hc ⊢
  split
  ·rename_i h1
   rw [if_pos h1] at hc
   split
   ·rename_i h2; rw [if_pos h2] at hc; cases hc
   ·rfl
  ·rename_i h1; rw [if_neg h1] at hc; cases hc
 rw [e]
 show SG (k + 1) d (s ++ [((d.length : Int), [])]) next
 refine ⟨Nat.le_succ_of_le h.hd, h.hw, ?_, fun y hy => ?_, ⟨h.hn.1, by have := h.hn.2; omega⟩, by simp⟩
 ·have := h.hz
  rw [qAy, List.length_append]
  have e0 : qV [((d.length : Int), ([] : List qE))] = 0 := rfl
  rw [e0, List.length_singleton]; omega
 ·rcases List.mem_append.1 hy with hy | hy
  ·exact h.hg y hy
  ·rw [List.mem_singleton] at hy; subst hy
   exact fun l hl => (List.not_mem_nil hl).elim
theorem qCz {l : qE} {a : Int} : ∀ (s : List qF) (i : Nat), i < s.length -> qV (List.set s i (a, (rd s i).2 ++ [l])) = qV s + 1 + qX [l]
 | [], i, h => absurd h (Nat.not_lt_zero _)
 | y :: r, 0, h => by
  show ((y.2 ++ [l]).length + qX (y.2 ++ [l])) + qV r = ((y.2.length + qX y.2) + qV r) + 1 + qX [l]
  rw [qCB, List.length_append, List.length_singleton]; omega
 | y :: r, i + 1, h => by
  have ih := qCz (l := l) (a := a) r i (by simpa using h)
  show (y.2.length + qX y.2) + qV (List.set r i (a, (rd r i).2 ++ [l])) = ((y.2.length + qX y.2) + qV r) + 1 + qX [l]
  rw [ih]; omega
theorem qGK : ∀ {t : List qA}, (∀ x ∈ t, x.2.2.2.2.2.1.length <= 64) -> vQ t <= 64 * t.length + sK t
 | [], _ => Nat.zero_le _
 | y :: r, h => by
  have ih := qGK (t := r) fun x hx => h x (List.mem_cons_of_mem _ hx)
  have := h y List.mem_cons_self
  show (y.2.2.2.2.2.1.length + y.2.2.2.2.2.2.length) + vQ r <= 64 * (r.length + 1) + sK (y :: r)
  have e : sK (y :: r) = y.2.2.2.2.2.2.length + sK r := by simp [sK]
  rw [e]; omega
theorem SG.lit {k : Nat} {d : List qB} {s : List qF} {next : Int} (h : SG k d s next) {a : Bool} {t1 t2 : List qA} (h1 : DTm t1) (h2 : DTm t2) : SG (k + 1) d (qGu s (next, a, t1, t2)) (next + 1) := by
 have hs := h.hs
 have e := qCz (l := ((next, a, t1, t2) : qE)) (a := (rd s (s.length - 1)).1) s (s.length - 1) (by omega)
 have b1 := qGK (t := t1) fun x hx => (h1.2.2 x hx).2.1
 have b2 := qGK (t := t2) fun x hx => (h2.2.2 x hx).2.1
 have l1 := h1.1; have l2 := h2.1; have k1 := h1.2.1; have k2 := h2.2.1
 have el : qX [((next, a, t1, t2) : qE)] = (t1.length + vQ t1) + (t2.length + vQ t2) + 0 := rfl
 refine ⟨Nat.le_succ_of_le h.hd, h.hw, ?_, fun y hy => ?_, ⟨by have := h.hn.1; omega, by have := h.hn.2; omega⟩, by unfold qGu; rw [List.length_set]; exact hs⟩
 ·have := h.hz
  unfold qGu
  rw [List.length_set, e, el]; omega
 ·unfold qGu at hy
  rcases List.mem_or_eq_of_mem_set hy with hy | rfl
  ·exact h.hg y hy
  ·have hmem : rd s (s.length - 1) ∈ s := by
    rw [rd, List.getD_eq_getElem?_getD, List.getElem?_eq_getElem (show s.length - 1 < s.length by omega)]
    exact List.getElem_mem _
   intro l hl
   rcases List.mem_append.1 hl with hl | hl
   ·exact h.hg _ hmem l hl
   ·rw [List.mem_singleton] at hl; subst hl
    exact ⟨fun x hx => ⟨(h1.2.2 x hx).1, by have := (h1.2.2 x hx).2.2; omega⟩, fun x hx => ⟨(h2.2.2 x hx).1, by have := (h2.2.2 x hx).2.2; omega⟩⟩
theorem qBP : ∀ (s : List qF) (k : Nat), qV (s.take k) <= qV s
 | [], k => by rw [List.take_nil]; exact Nat.le_refl _
 | y :: r, 0 => Nat.zero_le _
 | y :: r, k + 1 => by
  have ih := qBP r k
  show (y.2.length + qX y.2) + qV (r.take k) <= (y.2.length + qX y.2) + qV r
  omega
theorem SG.pop {k : Nat} {d : List qB} {s : List qF} {next : Int} (h : SG k d s next) (hc : (qCK d s next).2 = 0) :
  SG (k + 1) (qCK d s next).1.1 (qCK d s next).1.2.1 (qCK d s next).1.2.2 := by
 have hs := h.hs
 have e : s.length ≠ 1 /\ qCK d s next = ((d.take (rd s (s.length - 1)).1.toNat, s.take (s.length - 1), next), 0) := by
  unfold qCK at hc ⊢
  split
  ·rename_i h1
   rw [if_pos h1] at hc
   split
   ·rename_i h2; rw [if_pos h2] at hc; cases hc
   ·rename_i h2; exact ⟨h2, rfl⟩
  ·rename_i h1; rw [if_neg h1] at hc; cases hc
 obtain ⟨hl, e⟩ := e
 rw [e]
 show SG (k + 1) (d.take (rd s (s.length - 1)).1.toNat) (s.take (s.length - 1)) next
 have hz := h.hz
 have ht := qBP s (s.length - 1)
 exact ⟨by rw [List.length_take]; have := h.hd; omega, fun x hx => h.hw x (List.mem_of_mem_take hx), by rw [List.length_take]; omega, fun y hy => h.hg y (List.mem_of_mem_take hy), ⟨h.hn.1, by have := h.hn.2; omega⟩, by rw [List.length_take]; omega⟩
theorem qIM {d e : List qB} {x : qA} (h : wT d x = true) : wT (d ++ e) x = true := by
 rw [wT, decide_eq_true_eq] at h ⊢
 rw [List.length_append]
 rcases h with ⟨h1, h2, h3, h4⟩ | h | h | h
 ·exact .inl ⟨h1, h2, h3, by omega⟩
 ·exact .inr (.inl h)
 ·exact .inr (.inr (.inl h))
 ·exact .inr (.inr (.inr h))
theorem qIx {d e : List qB} {x : qA} {s : Int} (h : wT d x = true) : qAh (d ++ e) x s = qAh d x s := by
 unfold qAh
 by_cases h1 : x.1 = 1
 ·rw [if_pos h1, if_pos h1]
  rw [wT, decide_eq_true_eq] at h
  have : 0 <= x.2.1 /\ x.2.1 <= (d.length : Int) - 1 := by
   rcases h with ⟨_, _, h3, h4⟩ | h | h | h
   ·exact ⟨h3, h4⟩
   ·omega
   ·omega
   ·omega
  rw [qHK (by omega)]
 ·rw [if_neg h1, if_neg h1]
theorem qIw {d e : List qB} {x : qA} {wide : List Int} {w : Int} (h : yH d x wide = some w) : yH (d ++ e) x wide = some w := by
 unfold yH at h ⊢
 split at h
 ·rename_i hk
  rw [if_pos ⟨hk.1, hk.2.1, qIM hk.2.2⟩, qIx hk.2.2]; exact h
 ·cases h
theorem qAK {d e : List qB} : ∀ {t : List qA} {wide : List Int} {used : List Bool} {r : List Int × List Bool}, jH d t wide used = some r -> jH (d ++ e) t wide used = some r
 | [], wide, used, r, h => h
 | x :: t, wide, used, r, h => by
  rw [jH] at h ⊢
  cases hs : yH d x wide with
  | none => rw [hs] at h; cases h
  | some w => rw [hs] at h; rw [qIw hs]; exact qAK h
theorem qCq {d e : List qB} {t : List qA} (h : 0 <= zE d t) : zE (d ++ e) t = zE d t := by
 have hw : (zL d t).2 = true := by
  by_cases hw : (zL d t).2 = true
  ·exact hw
  ·rw [zE, if_neg hw] at h; omega
 have : zL (d ++ e) t = zL d t := by
  unfold zL at hw ⊢
  split
  ·rename_i hl
   rw [if_pos hl] at hw
   cases hg : jH d t [] (List.replicate t.length false) with
   | none => rw [hg] at hw; cases hw
   | some r => rw [qAK hg]
  ·rfl
 rw [zE, zE, this]
theorem qCR {d e : List qB} : ∀ {l : List qE} {b : Int}, kU d l b = true -> kU (d ++ e) l b = true
 | [], b, h => h
 | y :: l, b, h => by
  rw [kU, Bool.and_eq_true, Bool.and_eq_true, Bool.and_eq_true, decide_eq_true_eq, Bool.not_eq_true', decide_eq_false_iff_not, decide_eq_true_eq] at h
  obtain ⟨⟨⟨h1, h2⟩, h3⟩, h4⟩ := h
  have e1 : zE (d ++ e) y.2.2.1 = zE d y.2.2.1 := qCq (by omega)
  have e2 : zE (d ++ e) y.2.2.2 = zE d y.2.2.2 := qCq (by omega)
  rw [kU, e1, e2, qCR h4, Bool.and_true, Bool.and_eq_true, Bool.and_eq_true, decide_eq_true_eq, Bool.not_eq_true', decide_eq_false_iff_not, decide_eq_true_eq]
  exact ⟨⟨h1, h2⟩, h3⟩
theorem qII {d e : List qB} {l : List qE} (h : qCa d l = true) : qCa (d ++ e) l = true := by
 rw [qCa, Bool.and_eq_true] at h ⊢
 exact ⟨h.1, qCR h.2⟩
theorem qAT {n m : Int} (hm : n <= m) : ∀ {s : List qF} {b : Int}, jI n s b = true -> jI m s b = true
 | [], b, h => rfl
 | x :: r, b, h => by
  rw [jI, Bool.and_eq_true, decide_eq_true_eq] at h ⊢
  exact ⟨by omega, qAT hm h.2⟩
theorem qAo {d e : List qB} : ∀ {s : List qF} {b : Int}, 0 <= b -> jI d.length s b = true -> jY d s = true -> jY (d ++ e) s = true
 | [], b, h0, hg, h => rfl
 | x :: r, b, h0, hg, h => by
  rw [jY, Bool.and_eq_true] at h ⊢
  rw [jI, Bool.and_eq_true, decide_eq_true_eq] at hg
  refine ⟨?_, qAo (by omega) hg.2 h.2⟩
  cases r with
  | nil =>
   simp only [qAk, Int.toNat_natCast] at h ⊢
   rw [List.take_length] at h
   rw [List.take_length]
   exact qII h.1
  | cons y r =>
   have hy := hg.2
   rw [jI, Bool.and_eq_true, decide_eq_true_eq] at hy
   simp only [qAk] at h ⊢
   rw [List.take_append_of_le_length (by omega)]
   exact h.1
theorem qG2 {d : List qB} {s : List qF} {next w : Int} {z : List UInt8} (hc : (zR d s next z w).2 = 0) :
  zR d s next z w = ((d ++ [(z, w)], s, next), 0) /\ jQ (d ++ [(z, w)]) s next = true /\ (zR (d ++ [(z, w)]) s next z w).2 = 3 := by
 unfold zR at hc
 split at hc
 ·rename_i h1
  split at hc
  ·cases hc
  ·rename_i h2
   split at hc
   ·cases hc
   ·rename_i h3
    split at hc
    ·cases hc
    ·rename_i h4
     split at hc
     ·cases hc
     ·rename_i h5
      have h4' : 1 <= w /\ w <= 4096 := Classical.not_not.1 h4
      have h2' : kR z = true := by simpa using h2
      have hdo := yS h1
      have e1 : zR d s next z w = ((d ++ [(z, w)], s, next), 0) := by
       rw [zR, if_pos h1, if_neg h2, if_neg h3, if_neg h4, if_neg h5]
      have ok : jQ (d ++ [(z, w)]) s next = true := by
       have hd' : jL (d ++ [(z, w)]) = true := by
        rw [jL, Bool.and_eq_true, decide_eq_true_eq] at hdo
        have sn := xT (y := (z, w)) h2' h4' hdo.2 (by rw [List.nil_append]; exact yE (x := 0) (Int.le_refl _) (Int.not_le.1 h3))
        rw [jL, sn, List.length_append, Bool.and_eq_true, decide_eq_true_eq, decide_eq_true_eq]
        have h5' : ¬ d.length = 60 /\ ¬ 20000 < qBJ d + w := ⟨fun h => h5 (.inl h), fun h => h5 (.inr h)⟩
        refine ⟨?_, by simp only []; omega⟩
        simp only [List.length_singleton]; omega
       have h1' := h1
       simp only [jQ, Bool.and_eq_true, decide_eq_true_eq] at h1' ⊢
       obtain ⟨⟨⟨⟨⟨⟨⟨⟨a1, a2⟩, a3⟩, a4⟩, a5⟩, a6⟩, a7⟩, a8⟩, a9⟩ := h1'
       refine ⟨⟨⟨⟨⟨⟨⟨⟨hd', a2⟩, a3⟩, a4⟩, ?_⟩, qAo (Int.le_refl _) a5 a6⟩, a7⟩, a8⟩, a9⟩
       exact qAT (by rw [List.length_append]; omega) a5
      refine ⟨e1, ok, ?_⟩
      have hf : 0 <= jA (fun y : qB => decide (y.1 = z)) (d ++ [(z, w)]) 0 := by
       refine Int.not_lt.1 fun hn => ?_
       have := yE (Int.le_refl 0) hn
       rw [List.any_append] at this
       simp at this
      rw [zR, if_pos ok, if_neg h2, if_pos hf]
 ·cases hc
theorem qG3 {d : List qB} {s : List qF} {next w : Int} {z : List UInt8} (h1 : (zR d s next z w).2 ≠ 1) (h0 : (zR d s next z w).2 ≠ 0) : (zR d s next z w).1 = (d, s, next) := by
 unfold zR at h0 h1 ⊢
 (repeat' split) <;> first | rfl | (exfalso; simp_all; done)
theorem SG.dlen {k : Nat} {d : List qB} {s : List qF} {next : Int} (h : SG k d s next) (hk : k <= 14) : d.length <= 1048576 /\ s.length + qV s <= 1048576 := by
 have := h.hd; have := h.hz
 exact ⟨by omega, by omega⟩
theorem SG.sc0 {k : Nat} {d : List qB} {s : List qF} {next : Int} (h : SG k d s next) (hk : k <= 14) : jQ d s next = true -> 1 <= s.length /\ 1 <= next /\ next <= 1000000 := fun _ => by
 have := h.hs; have := h.hn
 exact ⟨by omega, by omega, by omega⟩
theorem SG.decls {k : Nat} {d : List qB} {s : List qF} {next : Int} (h : SG k d s next) (hk : k <= 14) (hd : 0 < (d.length : Int)) : qIs d := ⟨by omega, by have := h.hd; omega, h.hw⟩
theorem qJo {bs : List Int} {c c1 cs p x34 next x36 : Int} {fl : Bool} {xd d : List qB} {xs s : List qF} {k : Nat} (hb : xA bs) (hp : Pos bs p) (hk : k <= 14) (hg : SG k d s next)
  {R0 R1 R2 R4 : Nat -> Int -> Int -> List qB -> List qF -> List qB -> List qF -> List qB -> List qF -> List Int -> Int -> Int -> Int -> Int -> Prop} {R3 : Nat -> Int -> Int -> List qB -> List qF -> List qB -> List qF -> List Int -> Int -> Int -> Int -> Int -> Prop}
  (h0 : ∀ cd d' s' q n', (cd = 0 -> SG (k + 1) d' s' n') -> Pos bs q -> Ev (fun n => R0 n c cd d' s' xd xs d s bs q x34 next n'))
  (h1 : ∀ cd d' s' q n', (cd = 0 -> SG (k + 1) d' s' n') -> Pos bs q -> Ev (fun n => R1 n c cd d' s' xd xs d s bs q x34 next n'))
  (h2 : ∀ cd d' s' q n', (cd = 0 -> SG (k + 1) d' s' n') -> Pos bs q -> Ev (fun n => R2 n c cd d' s' xd xs d s bs q x34 next n'))
  (h3 : ∀ q, Pos bs q -> Ev (fun n => R3 n c c1 xd xs d s bs q x34 next x36))
  (h4 : ∀ cd d' s' q n', (cd = 0 -> SG (k + 1) d' s' n') -> Pos bs q -> Ev (fun n => R4 n c cd d' s' xd xs d s bs q x34 next n')) :
  Ev (fun n => Z68.q13 n c c1 cs fl xd xs d s bs p x34 next x36 (R0 n) (R1 n) (R2 n) (R3 n) (R4 n)) := by
 obtain ⟨hd, hs⟩ := hg.dlen hk
 have hd0 := hg.hd
 refine Ev.succ ?_
 simp only [Z68.q13, Z68.q13.b, and_self]
 refine Ev.ite (fun _ => ?_) fun _ => Ev.ite (fun _ => ?_) fun _ => Ev.ite (fun _ => ?_) fun _ => Ev.ite (fun hl => ?_) fun _ => (h3 p hp).shift
 ·refine jX hb hp (by omega) fun r q r1 r2 hq => jX hb hq (by omega) fun v q' v1 v2 hq' => ?_
  rw [qD7 hd hs hg.hg, qC (x := 1 + v) (by omega) (by omega)]
  refine (h0 _ _ _ q' _ (fun hc => ?_) hq').shift
  exact hg.decl ⟨by omega, by omega⟩ hc
 ·rw [qID hd hs hg.hg]
  exact (h1 _ _ _ p _ (fun hc => hg.push hc) hp).shift
 ·refine vR hb hp (by omega) fun o q hq => Ev.ite (fun _ => ?_) fun _ => (h3 q hq).shift
  rw [qJC hd hs hg.hg]
  exact (h2 _ _ _ q _ (fun hc => hg.pop hc) hq).shift
 ·have hd' := hg.decls hk (by simpa using hl)
  refine qIJ hb hp hd' fun e t1 t2 q ht1 ht2 hq => ?_
  rw [qDA (by omega) ht1.wd, qDA (by omega) ht2.wd]
  refine qKG hd hs hg.hg (hg.sc0 hk) (fun d' s' n' i cd hcd => ?_) fun u1 u2 hu1 hu2 _ _ => ?_
  ·exact (h4 cd d' s' q n' (fun h => absurd h hcd) hq).shift
  ·exact (h4 0 d _ q _ (fun _ => hg.lit hu1 hu2) hq).shift
theorem qHC {bs : List Int} (hb : xA bs) : ∀ (m k : Nat) (c p x34 next : Int) (xd d : List qB) (xs s : List qF), c = m -> k + m <= 14 -> SG k d s next -> Pos bs p ->
  ∀ R : Nat -> List qB -> List qF -> List qB -> List qF -> List Int -> Int -> Int -> Int -> Prop,
  (∀ yd ys d' s' q y n', SG 14 d' s' n' -> Pos bs q -> Ev (fun n => R n yd ys d' s' bs q y n')) -> Ev (fun n => Z68.l3 n c xd xs d s bs p x34 next (R n))
 | 0, k, c, p, x34, next, xd, d, xs, s, hc, hk, hg, hp, R, hR => by
  refine Ev.succ ?_
  simp only [Z68.l3, Z68.l3.b]
  refine Ev.neg (by simp; omega) (hR xd xs d s p x34 next ?_ hp).shift
  exact ⟨by have := hg.hd; omega, hg.hw, by have := hg.hz; omega, hg.hg, ⟨hg.hn.1, by have := hg.hn.2; omega⟩, hg.hs⟩
 | m + 1, k, c, p, x34, next, xd, d, xs, s, hc, hk, hg, hp, R, hR => by
  have e : IntKind.wrap .i64 (c - 1) = (m : Int) := by rw [qC] <;> omega
  have again : ∀ (q y n' : Int) (yd d' : List qB) (ys s' : List qF), SG (k + 1) d' s' n' -> Pos bs q -> Ev (fun n => Z68.l3 n (m : Int) yd ys d' s' bs q y n' (R (n + 1))) := fun q y n' yd d' ys s' hg' hq =>
   qHC hb m (k + 1) (m : Int) q y n' yd d' ys s' rfl (by omega) hg' hq (fun n => R (n + 1)) fun yd ys d' s' q y n' h1 h2 => (hR yd ys d' s' q y n' h1 h2).shift
  have n1 := hg.next
  refine Ev.succ ?_
  simp only [Z68.l3, Z68.l3.b]
  refine Ev.pos (by simp; omega) (jX hb hp (by omega) fun r q r1 r2 hq => Ev.ite (fun _ => ?_) fun _ => ?_)
  all_goals
   refine qJo hb hq (by omega) hg (fun cd d' s' q n' h1 hq' => ?_) (fun cd d' s' q n' h1 hq' => ?_) (fun cd d' s' q n' h1 hq' => ?_) (fun q hq' => ?_) (fun cd d' s' q n' h1 hq' => ?_)
   ·refine Ev.succ ?_
    simp only [Z68.q19, Z68.q19.b]
    refine Ev.ite (fun hz => ?_) fun _ => ?_
    ·refine Ev.succ ?_
     simp only [Z68.q4, Z68.q4.b, e]
     exact ((again q _ n' _ d' _ s' (h1 (by simpa using hz)) hq').shift).shift
    ·refine Ev.succ ?_
     simp only [Z68.q4_1, Z68.q4_1.b, e]
     exact ((again q _ next _ d _ s n1 hq').shift).shift
   ·refine Ev.succ ?_
    simp only [Z68.q19_1, Z68.q19_1.b]
    refine Ev.ite (fun hz => ?_) fun _ => ?_
    ·refine Ev.succ ?_
     simp only [Z68.q4_2, Z68.q4_2.b, e]
     exact ((again q _ n' _ d' _ s' (h1 (by simpa using hz)) hq').shift).shift
    ·refine Ev.succ ?_
     simp only [Z68.q4_1, Z68.q4_1.b, e]
     exact ((again q _ next _ d _ s n1 hq').shift).shift
   ·refine Ev.succ ?_
    simp only [Z68.q19_2, Z68.q19_2.b]
    refine Ev.ite (fun hz => ?_) fun _ => ?_
    ·refine Ev.succ ?_
     simp only [Z68.q4_3, Z68.q4_3.b, e]
     exact ((again q _ n' _ d' _ s' (h1 (by simpa using hz)) hq').shift).shift
    ·refine Ev.succ ?_
     simp only [Z68.q4_1, Z68.q4_1.b, e]
     exact ((again q _ next _ d _ s n1 hq').shift).shift
   ·refine Ev.succ ?_
    simp only [Z68.q19_3, Z68.q19_3.b]
    refine Ev.ite (fun hz => ?_) fun _ => ?_
    all_goals
     refine Ev.succ ?_
     simp only [Z68.q4_1, Z68.q4_1.b, e]
     exact ((again q _ next _ d _ s n1 hq').shift).shift
   ·refine Ev.succ ?_
    simp only [Z68.q19_4, Z68.q19_4.b]
    refine Ev.ite (fun hz => ?_) fun _ => ?_
    ·refine Ev.succ ?_
     simp only [Z68.q4_4, Z68.q4_4.b, e]
     exact ((again q _ n' _ d' _ s' (h1 (by simpa using hz)) hq').shift).shift
    ·refine Ev.succ ?_
     simp only [Z68.q4_1, Z68.q4_1.b, e]
     exact ((again q _ next _ d _ s n1 hq').shift).shift
theorem qFu {bs : List Int} (hb : xA bs) {yd d : List qB} {ys : List qF} {y next : Int} (hd : d.length <= 14) : ∀ (m : Nat) (s : List qF) (p : Int), 22 <= s.length + m -> m <= 22 -> s.length + qV s + m <= 1000000 -> (∀ y ∈ s, qI2 y.2) -> Pos bs p ->
  ∀ R : Nat -> List qB -> List qF -> List qB -> List qF -> List Int -> Int -> Int -> Int -> Prop,
  (∀ s' q, s'.length + qV s' <= 1000000 -> (∀ y ∈ s', qI2 y.2) -> Pos bs q -> Ev (fun n => R n yd ys d s' bs q y next)) -> Ev (fun n => Z68.l34 n yd ys d y next s bs p (R n))
 | 0, s, p, hl, hm, hz, hg, hp, R, hR => by
  refine Ev.succ ?_
  simp only [Z68.l34, Z68.l34.b, and_self]
  refine jX hb hp (by omega) fun r q r1 r2 hq => ?_
  rw [qC (x := 20 + r) (by omega) (by omega)]
  exact Ev.neg (by simp; omega) (hR s q (by omega) hg hq).shift
 | m + 1, s, p, hl, hm, hz, hg, hp, R, hR => by
  refine Ev.succ ?_
  simp only [Z68.l34, Z68.l34.b, and_self, Z68.j2]
  refine jX hb hp (by omega) fun r q r1 r2 hq => ?_
  rw [qC (x := 20 + r) (by omega) (by omega)]
  refine Ev.ite (fun _ => Ev.grd (by simp; omega) ?_) fun _ => (hR s q (by omega) hg hq).shift
  refine qFu hb hd m _ q (by simp; omega) (by omega) ?_ (fun y hy => ?_) hq (fun n => R (n + 1)) fun s' q h1 h2 h3 => (hR s' q h1 h2 h3).shift
  ·rw [qAy, List.length_append]
   have e0 : qV [((d.length : Int), ([] : List qE))] = 0 := rfl
   rw [e0, List.length_singleton]; omega
  ·rcases List.mem_append.1 hy with hy | hy
   ·exact hg y hy
   ·rw [List.mem_singleton] at hy; subst hy
    exact fun l hl => (List.not_mem_nil hl).elim
structure qL2 (d : List qB) (s : List qF) : Prop where
 hd : d.length <= 14
 hz : s.length + qV s <= 1000000
 hg : ∀ y ∈ s, qI2 y.2
theorem qEq : ∀ (s : List qF), qV (s.drop 1) <= qV s
 | [] => Nat.le_refl _
 | y :: r => by show qV r <= (y.2.length + qX y.2) + qV r; omega
theorem qCA {a : Int} : ∀ (s : List qF) (i : Nat), i < s.length -> qV (List.set s i (a, (rd s i).2)) = qV s
 | [], i, h => absurd h (Nat.not_lt_zero _)
 | y :: r, 0, h => rfl
 | y :: r, i + 1, h => by
  have ih := qCA (a := a) r i (by simpa using h)
  show (y.2.length + qX y.2) + qV (List.set r i (a, (rd r i).2)) = (y.2.length + qX y.2) + qV r
  rw [ih]
theorem qOT (R : Nat -> List qB -> List qF -> Int -> Prop) : Ev (fun n => Z35.c n (R n)) ↔ Ev (fun n => R n [] [((0 : Int), [])] 1) := by
 refine Ev.suc.trans ?_
 simp only [Z35.c, Z35.w]
 exact Ev.s3 R _ _ _
theorem qIB {bs : List Int} {p : Int} {R : Nat -> List qB -> List qF -> Int -> List Int -> Int -> Prop} (hb : xA bs) (hp : Pos bs p)
  (h : ∀ d s n' q, qL2 d s -> Pos bs q -> Ev (fun n => R n d s n' bs q)) : Ev (fun n => Z68.c n bs p (R n)) := by
 refine Ev.succ ?_
 simp only [Z68.c, Z68.w, and_self]
 rw [qOT]
 refine qMD hb hp (by omega) (by omega) (by omega) fun r q r1 r2 hq => ?_
 refine qHC hb r.toNat 0 r q 0 1 [] [] [] _ (by omega) (by omega) SG.begin hq _ fun yd ys d s q y n' hg hq => ?_
 have hd := hg.hd; have hz := hg.hz; have hs := hg.hs
 have D : qL2 d s := ⟨hd, by omega, hg.hg⟩
 refine jX hb hq (by omega) fun t q t1 t2 hq => ?_
 refine Ev.ite (fun _ => ?_) fun _ => Ev.ite (fun _ => ?_) fun _ => Ev.ite (fun _ => ?_) fun _ => Ev.ite (fun _ => ?_) fun _ => Ev.ite (fun _ => ?_) fun _ => Ev.ite (fun _ => ?_) fun _ => (h d s n' q D hq).shift
 ·exact qJG hb hq ⟨by omega, by omega⟩ ⟨by omega, by omega⟩ (by omega) fun v q _ hq => (h d s v q D hq).shift
 ·refine qJG hb hq ⟨by omega, by omega⟩ ⟨by omega, by omega⟩ (by omega) fun v q _ hq => ?_
  rw [qC (x := (s.length : Int) - 1) (by omega) (by omega)]
  refine Ev.grd (by simp; omega) (h d _ n' q ⟨hd, ?_, fun y hy => ?_⟩ hq).shift
  ·rw [List.length_set, qCA s _ (by omega)]; omega
  ·rcases List.mem_or_eq_of_mem_set hy with hy | rfl
   ·exact hg.hg y hy
   ·refine hg.hg (rd s ((s.length : Int) - 1).toNat) ?_
    rw [rd, List.getD_eq_getElem?_getD, List.getElem?_eq_getElem (show ((s.length : Int) - 1).toNat < s.length by omega)]
    exact List.getElem_mem _
 ·refine Ev.ite (fun hl => Ev.grd (by simp at hl ⊢; omega) ?_) fun _ => (h d s n' q D hq).shift
  rw [Int.toNat_natCast, List.take_length]
  exact (h _ s n' q ⟨by rw [List.length_drop]; omega, D.hz, D.hg⟩ hq).shift
 ·refine Ev.grd (by simp; omega) ?_
  rw [Int.toNat_natCast, List.take_length]
  exact (h d _ n' q ⟨hd, by have := qEq s; rw [List.length_drop]; omega, fun y hy => hg.hg y (List.mem_of_mem_drop hy)⟩ hq).shift
 ·exact (h d s 1000000 q D hq).shift
 ·exact qFu hb hd 22 s q (by omega) (by omega) (by omega) hg.hg hq (fun n y2156 y2157 y2158 y2159 y2160 y2161 y2162 y2163 => R (n + 1) y2158 y2159 y2163 y2160 y2161) fun s' q h1 h2 h3 => (h d s' n' q ⟨hd, h1, h2⟩ h3).shift
theorem qCx {a : List Int} (hl : a.length <= 1048576) : ∀ (m : Nat) (x : Int), x + m = a.length -> 0 <= x -> ∀ (Kx : Nat -> Prop) (Kr : Nat -> Bool -> Prop), Ev Kx -> Ev (fun n => Z24.l4 n a a x (Kx n) (Kr n))
 | 0, x, hx, h0, Kx, Kr, h => by
  refine Ev.succ ?_
  simp only [Z24.l4, Z24.l4.b]
  exact Ev.neg (by simp; omega) h.shift
 | m + 1, x, hx, h0, Kx, Kr, h => by
  refine Ev.succ ?_
  simp only [Z24.l4, Z24.l4.b]
  refine Ev.pos (by simp; omega) (Ev.grd (by simp; omega) (Ev.grd (by simp; omega) ?_))
  rw [qC (x := x + 1) (by omega) (by omega)]
  simp only [decide_true, Bool.not_true, Bool.false_eq_true, if_false]
  exact qCx hl m (x + 1) (by omega) (by omega) _ _ h.shift
theorem qGJ {a : List Int} (hl : a.length <= 1048576) {R : Nat -> Bool -> Prop} (h : Ev (fun n => R n true)) : Ev (fun n => Z24.c n a a (R n)) := by
 refine Ev.succ ?_
 simp only [Z24.c, Z24.w, decide_true, Bool.not_true, Bool.false_eq_true, if_false]
 exact qCx hl a.length 0 (by omega) (by omega) (fun n => R (n + 1) true) (fun n => R (n + 1)) h.shift
theorem qBO {a : List qA} (hl : a.length <= 1048576) (ha : ∀ x ∈ a, x.2.2.2.2.2.1.length <= 1048576 /\ x.2.2.2.2.2.2.length <= 1048576) : ∀ (m : Nat) (x : Int), x + m = a.length -> 0 <= x -> ∀ (Kx : Nat -> Prop) (Kr : Nat -> Bool -> Prop), Ev Kx -> Ev (fun n => Z26.l4 n a a x (Kx n) (Kr n))
 | 0, x, hx, h0, Kx, Kr, h => by
  refine Ev.succ ?_
  simp only [Z26.l4, Z26.l4.b]
  exact Ev.neg (by simp; omega) h.shift
 | m + 1, x, hx, h0, Kx, Kr, h => by
  have hm := ha (rd a x.toNat) (by rw [rd, List.getD_eq_getElem?_getD, List.getElem?_eq_getElem (by omega)]; exact List.getElem_mem _)
  refine Ev.succ ?_
  simp only [Z26.l4, Z26.l4.b]
  refine Ev.pos (by simp; omega) (Ev.grd (by simp; omega) (Ev.grd (by simp; omega) ?_))
  rw [qC (x := x + 1) (by omega) (by omega)]
  simp only [decide_true, Bool.not_true, Bool.false_eq_true, if_false, if_true]
  rw [qLm (by omega)]
  simp only [and_self, decide_true, Bool.not_true, Bool.false_eq_true, if_false, if_true]
  refine qGJ hm.2 ?_
  simp only [Bool.not_true, Bool.false_eq_true, if_false]
  exact qBO hl ha m (x + 1) (by omega) (by omega) _ _ h.shift
theorem qBN {a : List qA} (ha : TmS a) {R : Nat -> Bool -> Prop} (h : Ev (fun n => R n true)) : Ev (fun n => Z26.c n a a (R n)) := by
 have hl : a.length <= 1048576 := by unfold TmS at ha; omega
 refine Ev.succ ?_
 simp only [Z26.c, Z26.w, decide_true, Bool.not_true, Bool.false_eq_true, if_false]
 exact qBO hl ha.mem a.length 0 (by omega) (by omega) (fun n => R (n + 1) true) (fun n => R (n + 1)) h.shift
theorem qCw {a : List qE} (hl : a.length <= 1048576) (ha : ∀ x ∈ a, TmS x.2.2.1 /\ TmS x.2.2.2) : ∀ (m : Nat) (x : Int), x + m = a.length -> 0 <= x -> ∀ (Kx : Nat -> Prop) (Kr : Nat -> Bool -> Prop), Ev Kx -> Ev (fun n => Z25.l4 n a a x (Kx n) (Kr n))
 | 0, x, hx, h0, Kx, Kr, h => by
  refine Ev.succ ?_
  simp only [Z25.l4, Z25.l4.b]
  exact Ev.neg (by simp; omega) h.shift
 | m + 1, x, hx, h0, Kx, Kr, h => by
  have hm := ha (rd a x.toNat) (by rw [rd, List.getD_eq_getElem?_getD, List.getElem?_eq_getElem (by omega)]; exact List.getElem_mem _)
  have g : (decide (0 <= x) && decide (x < (a.length : Int))) = true := by simp; omega
  refine Ev.succ ?_
  simp only [Z25.l4, Z25.l4.b, g]
  refine Ev.pos (by simp; omega) ?_
  rw [qC (x := x + 1) (by omega) (by omega)]
  simp only [grd, decide_true, beq_self_eq_true, Bool.not_true, Bool.false_eq_true, if_false, if_true]
  refine qBN hm.1 ?_
  simp only [grd, Bool.not_true, Bool.false_eq_true, if_false, if_true]
  refine qBN hm.2 ?_
  simp only [Bool.not_true, Bool.false_eq_true, if_false]
  exact qCw hl ha m (x + 1) (by omega) (by omega) _ _ h.shift
theorem qGI {a : List qE} (ha : LtS a) {R : Nat -> Bool -> Prop} (h : Ev (fun n => R n true)) : Ev (fun n => Z25.c n a a (R n)) := by
 have hl : a.length <= 1048576 := by unfold LtS at ha; omega
 refine Ev.succ ?_
 simp only [Z25.c, Z25.w, decide_true, Bool.not_true, Bool.false_eq_true, if_false]
 exact qCw hl ha.mem a.length 0 (by omega) (by omega) (fun n => R (n + 1) true) (fun n => R (n + 1)) h.shift
theorem qFx {d : List qB} {s : List qF} {nx : Int} (hl : d.length <= 1048576) : ∀ (m : Nat) (x : Int), x + m = d.length -> 0 <= x -> ∀ (Kx : Nat -> List qB -> List qF -> Int -> List qB -> List qF -> Int -> Prop) (Kr : Nat -> Bool -> Prop), Ev (fun n => Kx n d s nx d s nx) -> Ev (fun n => Z27.l4 n d s nx d s nx x (Kx n) (Kr n))
 | 0, x, hx, h0, Kx, Kr, h => by
  refine Ev.succ ?_
  simp only [Z27.l4, Z27.l4.b]
  exact Ev.neg (by simp; omega) h.shift
 | m + 1, x, hx, h0, Kx, Kr, h => by
  have g : (decide (0 <= x) && decide (x < (d.length : Int))) = true := by simp; omega
  refine Ev.succ ?_
  simp only [Z27.l4, Z27.l4.b, g]
  refine Ev.pos (by simp; omega) ?_
  rw [qC (x := x + 1) (by omega) (by omega)]
  simp only [grd, decide_true, beq_self_eq_true, Bool.and_self, Bool.not_true, Bool.false_eq_true, if_false, if_true]
  exact qFx hl m (x + 1) (by omega) (by omega) (fun n => Kx (n + 1)) (fun n => Kr (n + 1)) h.shift
theorem qFw {d : List qB} {s : List qF} {nx : Int} (hl : s.length <= 1048576) (ha : ∀ y ∈ s, LtS y.2) : ∀ (m : Nat) (x : Int), x + m = s.length -> 0 <= x -> ∀ (Kx : Nat -> Prop) (Kr : Nat -> Bool -> Prop), Ev Kx -> Ev (fun n => Z27.l9 n d s nx d s nx x (Kx n) (Kr n))
 | 0, x, hx, h0, Kx, Kr, h => by
  refine Ev.succ ?_
  simp only [Z27.l9, Z27.l9.b]
  exact Ev.neg (by simp; omega) h.shift
 | m + 1, x, hx, h0, Kx, Kr, h => by
  have hm := ha (rd s x.toNat) (by rw [rd, List.getD_eq_getElem?_getD, List.getElem?_eq_getElem (by omega)]; exact List.getElem_mem _)
  have g : (decide (0 <= x) && decide (x < (s.length : Int))) = true := by simp; omega
  refine Ev.succ ?_
  simp only [Z27.l9, Z27.l9.b, g]
  refine Ev.pos (by simp; omega) ?_
  rw [qC (x := x + 1) (by omega) (by omega)]
  simp only [grd, decide_true, beq_self_eq_true, Bool.and_self, Bool.not_true, Bool.false_eq_true, if_false, if_true]
  refine qGI hm ?_
  simp only [Bool.not_true, Bool.false_eq_true, if_false]
  exact qFw hl ha m (x + 1) (by omega) (by omega) _ _ h.shift
theorem qDw {d : List qB} {s : List qF} {nx : Int} (hd : d.length <= 1048576) (hs : s.length + qV s <= 1048576) {R : Nat -> Bool -> Prop} (h : Ev (fun n => R n true)) : Ev (fun n => Z27.c n d s nx d s nx (R n)) := by
 refine Ev.succ ?_
 simp only [Z27.c, Z27.w, Z27.j0, decide_true, Bool.not_true, Bool.false_eq_true, if_false, if_true]
 refine qFx hd d.length 0 (by omega) (by omega) (fun n y94 y95 y96 y97 y98 y99 => Z27.l9 n y94 y95 y96 y97 y98 y99 0 (R (n + 1) true) (fun y101 => R (n + 1) y101)) (fun n y102 => R (n + 1) y102) ?_
 exact qFw (by omega) (fun y hy => by have := wA hy; unfold LtS; omega) s.length 0 (by omega) (by omega) (fun n => R (n + 1) true) (fun n => R (n + 1)) h.shift
theorem qLR {code : List Int} (hc : Gd (.sl 0 (.int .u8)) code) (h : ¬ (code.length : Int) > 1048576) : xA code := by
 refine ⟨fun x hx => ?_, by omega⟩
 have := hc.2 x hx
 have h1 : (0 : Int) <= x := this.1
 have h2 : x <= (255 : Int) := this.2
 omega
theorem qDx {bs : List Int} {R : Nat -> List qB -> List qF -> Int -> List UInt8 -> Int -> Prop} (hb : xA bs) (h : ∀ d s n' z w, qL2 d s -> Ev (fun n => R n d s n' z w)) :
  Ev (fun n => Z39.c n bs (R n)) := by
 have j : ∀ (d : List qB) (s : List qF) (n' : Int) (z : List UInt8) (p : Int), qL2 d s -> Pos bs p -> Ev (fun n => Z39.j0 (R (n + 1)) n d s n' z bs p) := fun d s n' z p D hp => by
  simp only [Z39.j0, and_self]
  refine jX hb hp (by omega) fun r q r1 r2 hq => Ev.grd (by simp; omega) ?_
  have e : 9 <= rd ([9, 4096] : List Int) r.toNat /\ rd ([9, 4096] : List Int) r.toNat <= 4096 := by
   rcases (show r = 0 \/ r = 1 by omega) with rfl | rfl <;> decide
  exact qJG hb hq ⟨by omega, by omega⟩ ⟨by omega, by omega⟩ (by omega) fun w q _ _ => (h d s n' z w D).shift
 refine Ev.succ ?_
 simp only [Z39.c, Z39.w]
 refine qMO (qIB hb ⟨by omega, by omega⟩ fun d s n' q D hq => jX hb hq (by omega) fun r q r1 r2 hq => vR hb hq (by omega) fun o q hq => Ev.ite (fun _ => ?_) fun _ => j _ _ _ _ _ D hq)
 exact jX hb hq (by omega) fun t q t1 t2 hq => Ev.grd (by simp; omega) (j _ _ _ _ _ D hq)
theorem declared_law {code : List Int} (hc : Gd (.sl 0 (.int .u8)) code) (K : Bool -> Prop) : True /\ (K true -> Ev (fun n => laws_FnDeclared.c n code K)) := by
 refine ⟨trivial, fun hK => ?_⟩
 refine Ev.succ ?_
 simp only [laws_FnDeclared.c, laws_FnDeclared.w]
 refine qNR (Ev.ite (fun _ => Ev.const hK) fun h1 => ?_)
 have hB := qLR hc (by simpa using h1)
 refine qDx hB fun d s nx z w D => ?_
 have hd := D.hd; have hs := D.hz
 rw [qD7 (by omega) (by omega) D.hg, qGc (by omega) (by omega)]
 simp only [decide_true, Bool.not_true, Bool.false_eq_true, if_false]
 refine Ev.ite (fun _ => Ev.const hK) fun hn1 => Ev.ite (fun hn0 => ?_) fun hc0 => ?_
 ·rw [qG3 (by simpa using hn1) (by simpa using hn0)]
  exact qDw (d := d) (s := s) (nx := nx) (by omega) (by omega) (Ev.const hK)
 ·have hc0' : (zR d s nx z w).2 = 0 := by simpa using hc0
  obtain ⟨e1, ok, e3⟩ := qG2 hc0'
  rw [e1]
  have hl : (d ++ [(z, w)]).length = d.length + 1 := by simp
  rw [qGc (d := d ++ [(z, w)]) (s := s) (next := nx) (by omega) (by omega), e3]
  have i1 : IntKind.wrap .i64 ((d.length : Int) + 1) = (d.length : Int) + 1 := qC (by omega) (by omega)
  have i2 : IntKind.wrap .i64 (((d.length + 1 : Nat) : Int) - 1) = (d.length : Int) := by rw [qC (by omega) (by omega)]; omega
  have er : rd (d ++ [(z, w)]) d.length = (z, w) := by
   rw [rd, List.getD_eq_getElem?_getD, List.getElem?_append_right (Nat.le_refl _), Nat.sub_self]; rfl
  simp only [hl, i1, i2, Int.toNat_natCast, er]
  refine Ev.pos (by simp) (Ev.grd (by simp; omega) (Ev.pos (by simp) (Ev.grd (by simp; omega) (Ev.pos (by simp) (Ev.pos (by simp) ?_)))))
  have ha := wW (s := s)
  rw [qBK (by omega) (by omega) (by omega), ok]
  exact Ev.const hK
end Go.Vsi
end
