/- What the told functions answer. No statement is proved here. -/
import Derived.Test.YtbpgfmandlhnaaaB1

section
set_option linter.unusedVariables false
set_option linter.unusedSimpArgs false
set_option synthInstance.maxSize 4096
namespace Go.Vsi
def OutG4 (x : tTNode) : Prop := Wd x.2.2.2.2.2.1 /\ x.2.2.2.2.2.1.length <= 4096 /\ x.2.2.2.2.2.2.length <= 4
def DT (t : List tTNode) : Prop := t.length <= 402 /\ ∀ x ∈ t, OutG4 x
theorem OutG.four {x : tTNode} (h : OutG x) : OutG4 x := ⟨h.1, h.2.1, by have := h.2.2; omega⟩
theorem DTerm.dt {t : List tTNode} (h : DTerm t) : DT t := ⟨by have := h.2.1; omega, fun x hx => OutG.four (h.2.2 x hx)⟩
theorem DT.wd {t : List tTNode} (h : DT t) : ∀ x ∈ t, Wd x.2.2.2.2.2.1 /\ x.2.2.2.2.2.2.length <= 1099511627776 := fun x hx => ⟨(h.2 x hx).1, by have := (h.2 x hx).2.2; omega⟩
theorem OutG4.of {op v a b w : Int} {ws ks : List Int} (hw : Wd ws) (hl : ws.length <= 4096) (hk : ks.length <= 4) : OutG4 (op, v, a, b, w, ws, ks) := ⟨hw, hl, hk⟩
theorem odd17_wp {bs : List Int} (hb : Bytes bs) {z : List tTNode} : ∀ (m : Nat) (N : List tTNode) (p : Int), N.length + m = 402 -> (∀ x ∈ N, OutG4 x) -> Pos bs p -> ∀ R : Nat -> List tTNode -> List tTNode -> List Int -> Int -> Prop,
  (∀ N' q, DT N' -> Pos bs q -> Ev (fun n => R n z N' bs q)) -> Ev (fun n => Z73.l17 n z N bs p (R n))
 | 0, N, p, hm, hN, hp, R, hR => by
  refine Ev.succ ?_
  simp only [Z73.l17, Z73.l17.b, and_self]
  refine below_wp hb hp (by omega) fun r q r1 r2 hq => ?_
  rw [wrap64 (by omega) (by omega)]
  exact Ev.neg (by simp; omega) (hR N q ⟨by omega, hN⟩ hq).shift
 | m + 1, N, p, hm, hN, hp, R, hR => by
  refine Ev.succ ?_
  simp only [Z73.l17, Z73.l17.b, Z73.j1, and_self]
  refine below_wp hb hp (by omega) fun r q r1 r2 hq => Ev.ite (fun _ => Ev.grd (by simp; omega) ?_) fun _ => (hR N q ⟨by omega, hN⟩ hq).shift
  exact odd17_wp hb m _ q (by simp; omega) (mem_appL hN (mem_oneL (OutG4.of Wd.nil (by simp) (by simp)))) hq (fun n => R (n + 1)) fun N' q' h1 h2 => (hR N' q' h1 h2).shift
theorem odd21_wp {bs : List Int} {d : List tDecl} (hd : d.length <= 7) {z : List tTNode} {p : Int} (hp : Pos bs p) : ∀ (m : Nat) (x : Int) (N : List tTNode), x + m = 40 -> N.length + 2 * m <= 400 -> (∀ x ∈ N, OutG4 x) -> ∀ R : Nat -> List tTNode -> List tTNode -> List Int -> Int -> Prop,
  (∀ N', DT N' -> Ev (fun n => R n z N' bs p)) -> Ev (fun n => Z73.l21 n d z bs p x N (R n))
 | 0, x, N, hm, hl, hN, R, hR => by
  refine Ev.succ ?_
  simp only [Z73.l21, Z73.l21.b]
  exact Ev.neg (by simp; omega) (hR N ⟨by omega, hN⟩).shift
 | m + 1, x, N, hm, hl, hN, R, hR => by
  have hw := fun R => widthOfS_ev (d := d) (t := N) (by omega) (fun x hx => ⟨(hN x hx).1, by have := (hN x hx).2.2; omega⟩) R
  refine Ev.succ ?_
  simp only [Z73.l21, Z73.l21.b, Z73.j5]
  refine Ev.pos (by simp; omega) ?_
  rw [hw]
  refine Ev.ite (fun _ => Ev.ite (fun _ => (hR N ⟨by omega, hN⟩).shift) fun _ => Ev.grd (by simp; omega) ?_) fun _ => (hR N ⟨by omega, hN⟩).shift
  rw [wrap64 (x := x + 1) (by omega) (by omega)]
  refine odd21_wp hd hp m (x + 1) _ (by omega) (by simp; omega) (mem_appL hN fun y hy => ?_) (fun n => R (n + 1)) fun N' h1 => (hR N' h1).shift
  simp only [List.mem_cons, List.not_mem_nil, or_false] at hy
  rcases hy with rfl | rfl
  ·exact OutG4.of Wd.nil (by simp) (by simp)
  ·exact OutG4.of Wd.nil (by simp) (by simp)
theorem oddTerm_wp {bs : List Int} {p want : Int} {d : List tDecl} {R : Nat -> List tTNode -> List Int -> Int -> Prop} (hb : Bytes bs) (hp : Pos bs p) (hd : DDecls d) (h : ∀ t q, DT t -> Pos bs q -> Ev (fun n => R n t bs q)) :
  Ev (fun n => Z73.c n bs p d want (R n)) := by
 have hd2 := hd.2.1
 have q1 : ∀ (t z : List tTNode) (q : Int), DT t -> Pos bs q -> Ev (fun n => Z73.q27 n t z bs q (fun y1 y2 y3 => R (n + 1) y1 y2 y3)) := fun t z q ht hq => by
  refine Ev.succ ?_; simp only [Z73.q27, Z73.q27.b]; exact (h t q ht hq).shift.shift
 have q2 : ∀ (t z : List tTNode) (q : Int), DT t -> Pos bs q -> Ev (fun n => Z73.q27_1 n t z bs q (fun y1 y2 y3 => R (n + 1) y1 y2 y3)) := fun t z q ht hq => by
  refine Ev.succ ?_; simp only [Z73.q27_1, Z73.q27_1.b]; exact (h t q ht hq).shift.shift
 have q3 : ∀ (t z : List tTNode) (q : Int), DT t -> Pos bs q -> Ev (fun n => Z73.q27_2 n z t bs q (fun y1 y2 y3 => R (n + 1) y1 y2 y3)) := fun t z q ht hq => by
  refine Ev.succ ?_; simp only [Z73.q27_2, Z73.q27_2.b]; exact (h t q ht hq).shift.shift
 refine Ev.succ ?_
 simp only [Z73.c, Z73.w, and_self]
 refine grow_wp hb hp hd fun t q ht hq => below_wp hb hq (by have := ht.1; omega) fun i q5 i1 i2 hq5 => below_wp hb hq5 (by omega) fun r q6 _ _ hq6 => ?_
 obtain ⟨t1, t2, t3⟩ := ht
 have hx := rd_memL (P := OutG) t3 (i := i.toNat) (by omega)
 have hT : ∀ y ∈ t, OutG4 y := fun y hy => OutG.four (t3 y hy)
 have hs : ∀ y : tTNode, OutG4 y -> DT (List.set t i.toNat y) := fun y hy => ⟨by simp; omega, mem_setL hT hy⟩
 have h4 : OutG4 (rd t i.toNat) := OutG.four hx
 have hg : (decide (0 <= i) && decide (i < (t.length : Int))) = true := by simp; omega
 refine Ev.ite (fun _ => ?_) fun _ => Ev.ite (fun _ => ?_) fun _ => Ev.ite (fun _ => ?_) fun _ => Ev.ite (fun _ => ?_) fun _ => Ev.ite (fun _ => ?_) fun _ => Ev.ite (fun _ => ?_) fun _ => Ev.ite (fun _ => ?_) fun _ => Ev.ite (fun _ => ?_) fun _ => q1 _ _ _ ⟨by omega, hT⟩ hq6
 ·exact off_wp hb hq6 ⟨by omega, by omega⟩ ⟨by omega, by omega⟩ (by omega) fun v q7 _ hq7 => Ev.grd hg (q1 _ _ _ (hs _ ⟨h4.1, h4.2.1, h4.2.2⟩) hq7)
 ·exact off_wp hb hq6 ⟨by omega, by omega⟩ ⟨by omega, by omega⟩ (by omega) fun v q7 _ hq7 => Ev.grd hg (q1 _ _ _ (hs _ ⟨h4.1, h4.2.1, h4.2.2⟩) hq7)
 ·exact off_wp hb hq6 ⟨by omega, by omega⟩ ⟨by omega, by omega⟩ (by omega) fun v q7 _ hq7 => Ev.grd hg (q1 _ _ _ (hs _ ⟨h4.1, h4.2.1, h4.2.2⟩) hq7)
 ·exact off_wp hb hq6 ⟨by omega, by omega⟩ ⟨by omega, by omega⟩ (by omega) fun v q7 _ hq7 => Ev.grd hg (q1 _ _ _ (hs _ ⟨h4.1, h4.2.1, h4.2.2⟩) hq7)
 ·have key : ∀ (v q7 : Int), Pos bs q7 -> Ev (fun n => Z73.q27 n (List.set t i.toNat ((rd t i.toNat).1, (rd t i.toNat).2.1, (rd t i.toNat).2.2.1, (rd t i.toNat).2.2.2.1, (rd t i.toNat).2.2.2.2.1, (rd t i.toNat).2.2.2.2.2.1, (rd t i.toNat).2.2.2.2.2.2 ++ [v])) [] bs q7 (fun y1 y2 y3 => R (n + 1) y1 y2 y3)) := fun v q7 hq7 =>
   q1 _ _ _ (hs _ (OutG4.of h4.1 h4.2.1 (by have := hx.2.2; simp; omega))) hq7
  have hk : ∀ v : Int, decide ((rd t i.toNat).2.2.2.2.2.2.length + ([v] : List Int).length <= 7818749353073) = true := fun v => by have := hx.2.2; simp; omega
  simp only [hg, hk, decide_true, grd_true, and_self]
  exact off_wp hb hq6 ⟨by omega, by omega⟩ ⟨by omega, by omega⟩ (by omega) fun v q7 _ hq7 => key v q7 hq7
 ·exact Ev.grd (by simp; omega) (q2 _ _ _ ⟨by simp; omega, mem_appL hT (mem_oneL (OutG4.of Wd.nil (by simp) (by simp)))⟩ hq6)
 ·exact odd17_wp hb (402 - t.length) t q6 (by omega) hT hq6 (fun n y389 y390 y391 y392 => Z73.q27_2 n y389 y390 y391 y392 (fun y397 y398 y399 => R (n + 1) y397 y398 y399)) fun N' q7 hN hq7 => q3 _ _ _ hN hq7
 ·exact odd21_wp (by omega) hq6 40 0 t (by omega) (by omega) hT (fun n y389 y390 y391 y392 => Z73.q27_2 n y389 y390 y391 y392 (fun y397 y398 y399 => R (n + 1) y397 y398 y399)) fun N' hN => q3 _ _ _ hN hq6
def DL (l : tLiteral) : Prop := DT l.2.2.1 /\ DT l.2.2.2
theorem DL.of {i : Int} {e : Bool} {s t : List tTNode} (hs : DT s) (ht : DT t) : DL (i, e, s, t) := ⟨hs, ht⟩
theorem literal_wp {bs : List Int} {p id : Int} {d : List tDecl} {R : Nat -> Int -> Bool -> List tTNode -> List tTNode -> List Int -> Int -> Prop} (hb : Bytes bs) (hp : Pos bs p) (hd : DDecls d)
  (h : ∀ e s t q, DT s -> DT t -> Pos bs q -> Ev (fun n => R n id e s t bs q)) : Ev (fun n => Z91.c n bs p d id (R n)) := by
 have hd1 := hd.1; have hd2 := hd.2.1
 have g : ∀ (e : Bool) (s : List tTNode) (w q : Int), DT s -> Pos bs q -> Ev (fun n => Z83.c n bs q d w (fun r50 r51 r52 => R (n + 1) id e s r50 r51 r52)) := fun e s w q hs hq => grow_wp hb hq hd fun t q' ht hq' => (h e s t q' hs ht.dt hq').shift
 refine Ev.succ ?_
 simp only [Z91.c, Z91.w, and_self]
 refine grow_wp hb hp hd fun s q hs hq => ?_
 have hw := fun R => widthOfS_ev (d := d) (t := s) (by omega) (hs.dt.wd) R
 have hs' : ∀ y ∈ s, OutG y := hs.2.2
 have fd : ∀ t : List tTNode, t.length <= s.length + 1 -> (∀ x ∈ t, OutG x) -> DT t := fun t h1 h2 => ⟨by have := hs.2.1; omega, fun x hx => OutG.four (h2 x hx)⟩
 rw [hw]
 refine once_wp hb hq (by omega) fun o q1 hq1 => Ev.ite (fun _ => below_wp hb hq1 (by omega) fun v q2 v1 v2 hq2 => Ev.grd (by simp; omega) (Ev.ite (fun _ => ?_) fun _ => ?_)) fun _ => Ev.ite (fun _ => ?_) fun _ => ?_
 ·have hf : ∀ t : List tTNode, t.length <= 2 -> (∀ x ∈ t, OutG x) -> DT t := fun t h1 h2 => ⟨by omega, fun x hx => OutG.four (h2 x hx)⟩
  refine fit_wp (by simp) (mem_oneL ⟨Wd.nil, by simp, by simp⟩) fun t' f1 f2 f3 => ?_
  exact once_wp hb hq2 (by omega) fun o q3 hq3 => g _ _ _ _ (hf t' (by simpa using f2) f3) hq3
 ·exact once_wp hb hq2 (by omega) fun o q3 hq3 => g _ _ _ _ ⟨by simp, mem_oneL (OutG4.of Wd.nil (by simp) (by simp))⟩ hq3
 ·refine fit_wp (by have := hs.2.1; omega) hs' fun t' f1 f2 f3 => ?_
  exact once_wp hb hq1 (by omega) fun o q3 hq3 => g _ _ _ _ (fd t' f2 f3) hq3
 ·exact once_wp hb hq1 (by omega) fun o q3 hq3 => g _ _ _ _ hs.dt hq3
theorem size_wp {bs : List Int} {p per most : Int} {R : Nat -> Int -> List Int -> Int -> Prop} (hb : Bytes bs) (hp : Pos bs p) (h1 : 1 <= per) (h2 : 1 <= most) (h3 : most <= 1000) (h : ∀ r q, 1 <= r -> r <= most -> Pos bs q -> Ev (fun n => R n r bs q)) :
  Ev (fun n => Z76.c n bs p per most (R n)) := by
 have hl := hb.2
 refine Ev.succ ?_
 simp only [Z76.c, Z76.w]
 have e0 : 0 <= Int.tdiv (bs.length : Int) per /\ Int.tdiv (bs.length : Int) per <= (bs.length : Int) := by
  rw [tdivP (by omega)]; exact ⟨Int.ediv_nonneg (by omega) (by omega), Int.ediv_le_self _ (by omega)⟩
 generalize Int.tdiv (bs.length : Int) per = k at e0 ⊢
 rw [wrap64 (x := k) (by omega) (by omega), wrap64 (x := 1 + k) (by omega) (by omega)]
 refine Ev.grd (by simp; omega) (Ev.ite (fun _ => below_wp hb hp h2 fun r q r1 r2 hq => ?_) fun hk => below_wp hb hp (by omega) fun r q r1 r2 hq => ?_)
 ·rw [wrap64 (by omega) (by omega)]; exact (h _ _ (by omega) (by omega) hq).shift
 ·simp only [decide_eq_true_eq] at hk
  rw [wrap64 (by omega) (by omega)]; exact (h _ _ (by omega) (by omega) hq).shift
theorem literals_lp_wp {bs : List Int} (hb : Bytes bs) {d : List tDecl} (hd : DDecls d) : ∀ (m : Nat) (c id : Int) (N : List tLiteral) (p : Int), c = m -> m <= 1000 -> N.length + m <= 2000 -> (∀ x ∈ N, DL x) -> Pos bs p -> ∀ R : Nat -> List tLiteral -> List Int -> Int -> Prop,
  (∀ N' q, N'.length = N.length + m -> (∀ x ∈ N', DL x) -> Pos bs q -> Ev (fun n => R n N' bs q)) -> Ev (fun n => Z68.l4 n d id c N bs p (R n))
 | 0, c, id, N, p, hc, hm, hl, hN, hp, R, hR => by
  refine Ev.succ ?_
  simp only [Z68.l4, Z68.l4.b]
  exact Ev.neg (by simp; omega) (hR N p rfl hN hp).shift
 | m + 1, c, id, N, p, hc, hm, hl, hN, hp, R, hR => by
  have e : IntKind.wrap .i64 (c - 1) = (m : Int) := by rw [wrap64] <;> omega
  refine Ev.succ ?_
  simp only [Z68.l4, Z68.l4.b, e]
  refine Ev.pos (by simp; omega) (below_wp hb hp (by omega) fun r q _ _ hq => literal_wp hb hq hd fun e s t q1 hs ht hq1 => Ev.grd (by simp; omega) ?_)
  exact literals_lp_wp hb hd m m _ _ q1 rfl (by omega) (by simp; omega) (mem_appL hN (mem_oneL ⟨hs, ht⟩)) hq1 (fun n => R (n + 1)) fun N' q' h1 h2 h3 => (hR N' q' (by rw [h1, List.length_append, List.length_singleton]; omega) h2 h3).shift
theorem literals_wp {bs : List Int} {p most : Int} {d : List tDecl} {R : Nat -> List tLiteral -> List Int -> Int -> Prop} (hb : Bytes bs) (hp : Pos bs p) (hd : DDecls d) (h1 : 1 <= most) (h2 : most <= 60)
  (h : ∀ l q, 1 <= l.length -> (l.length : Int) <= most -> (∀ x ∈ l, DL x) -> Pos bs q -> Ev (fun n => R n l bs q)) : Ev (fun n => Z68.c n bs p d most (R n)) := by
 refine Ev.succ ?_
 simp only [Z68.c, Z68.w]
 refine size_wp hb hp (by omega) h1 (by omega) fun r q r1 r2 hq => ?_
 exact literals_lp_wp hb hd r.toNat r 0 [] q (by omega) (by omega) (by simp; omega) (fun x hx => by cases hx) hq (fun n => R (n + 1)) fun N' q' k1 k2 k3 => (h N' q' (by simp at k1; omega) (by simp at k1; omega) k2 k3).shift
theorem odd9_wp {bs : List Int} (hb : Bytes bs) : ∀ (m : Nat) (N : List tLiteral) (p : Int), N.length + m = 62 -> 1 <= N.length -> (∀ x ∈ N, DL x) -> Pos bs p -> ∀ R : Nat -> List tLiteral -> List Int -> Int -> Prop,
  (∀ N' q, N'.length <= 62 -> (∀ x ∈ N', DL x) -> Pos bs q -> Ev (fun n => R n N' bs q)) -> Ev (fun n => Z72.l9 n N bs p (R n))
 | 0, N, p, hm, hl, hN, hp, R, hR => by
  refine Ev.succ ?_
  simp only [Z72.l9, Z72.l9.b]
  refine below_wp hb hp (by omega) fun r q r1 r2 hq => ?_
  rw [wrap64 (by omega) (by omega)]
  exact Ev.neg (by simp; omega) (hR N q (by omega) hN hq).shift
 | m + 1, N, p, hm, hl, hN, hp, R, hR => by
  have h0 := rd_memL (P := DL) hN (i := 0) (by omega)
  refine Ev.succ ?_
  simp only [Z72.l9, Z72.l9.b]
  refine below_wp hb hp (by omega) fun r q r1 r2 hq => Ev.ite (fun _ => Ev.grd (by simp; omega) ?_) fun _ => (hR N q (by omega) hN hq).shift
  rw [wrap64 (x := (N.length : Int) - 1) (by omega) (by omega)]
  refine Ev.grd (by simp; omega) (Ev.grd (by simp; omega) ?_)
  exact odd9_wp hb m _ q (by simp; omega) (by simp) (mem_appL hN (mem_oneL (DL.of h0.1 h0.2))) hq (fun n => R (n + 1)) fun N' q' h1 h2 h3 => (hR N' q' h1 h2 h3).shift
def DLs (l : List tLiteral) : Prop := l.length <= 62 /\ ∀ x ∈ l, DL x
theorem oddLiterals_wp {bs : List Int} {p most : Int} {d : List tDecl} {R : Nat -> List tLiteral -> List Int -> Int -> Prop} (hb : Bytes bs) (hp : Pos bs p) (hd : DDecls d) (h1 : 1 <= most) (h2 : most <= 60)
  (h : ∀ l q, DLs l -> Pos bs q -> Ev (fun n => R n l bs q)) : Ev (fun n => Z72.c n bs p d most (R n)) := by
 refine Ev.succ ?_
 simp only [Z72.c, Z72.w]
 refine literals_wp hb hp hd h1 h2 fun l q l1 l2 hl hq => below_wp hb hq (by omega) fun i q1 i1 i2 hq1 => below_wp hb hq1 (by omega) fun r q2 _ _ hq2 => ?_
 have hi := rd_memL (P := DL) hl (i := i.toNat) (by omega)
 refine Ev.ite (fun _ => ?_) fun _ => Ev.ite (fun _ => ?_) fun _ => Ev.ite (fun _ => ?_) fun _ => Ev.ite (fun _ => ?_) fun _ => (h l q2 ⟨by omega, hl⟩ hq2).shift
 ·exact off_wp hb hq2 ⟨by omega, by omega⟩ ⟨by omega, by omega⟩ (by omega) fun v q3 _ hq3 => Ev.grd (by simp; omega) (h _ q3 ⟨by simp; omega, mem_setL hl (DL.of hi.1 hi.2)⟩ hq3).shift
 ·exact oddTerm_wp hb hq2 hd fun t q3 ht hq3 => Ev.grd (by simp; omega) (h _ q3 ⟨by simp; omega, mem_setL hl (DL.of ht hi.2)⟩ hq3).shift
 ·exact odd9_wp hb (62 - l.length) l q2 (by omega) l1 hl hq2 (fun n => R (n + 1)) fun N' q3 k1 k2 hq3 => (h N' q3 ⟨k1, k2⟩ hq3).shift
 ·exact Ev.grd (by simp) (h _ q2 ⟨by simp, fun x hx => by simp at hx⟩ hq2).shift
end Go.Vsi
end

section
set_option linter.unusedVariables false
set_option linter.unusedSimpArgs false
set_option synthInstance.maxSize 4096
namespace Go.Vsi
theorem bytes_gd {code : List Int} (hc : Gd (.sl 0 (.int .u8)) code) (h : ¬ (code.length : Int) > 1048576) : Bytes code := by
 refine ⟨fun x hx => ?_, by omega⟩
 have := hc.2 x hx
 have h1 : (0 : Int) <= x := this.1
 have h2 : x <= (255 : Int) := this.2
 omega
theorem DVals.wd {v : List tBits} (h : DVals v) : ∀ z ∈ v, Wd z.2 := fun z hz => (h.2 z hz).2.1
theorem DL.g {l : tLiteral} (h : DL l) : LitG [l] := fun y hy => by
 rw [List.mem_singleton] at hy; subst hy; exact ⟨h.1.wd, h.2.wd⟩
end Go.Vsi
end

section
set_option linter.unusedVariables false
set_option linter.unusedSimpArgs false
set_option synthInstance.maxSize 4096
namespace Go.Vsi
theorem drawWeaken_wp {bs : List Int} {R : Nat -> List tDecl -> List tLiteral -> List tBits -> Prop} (hb : Bytes bs) (h : ∀ d l v, DDecls d -> DLs l -> DVals v -> Ev (fun n => R n d l v)) :
  Ev (fun n => Z47.c n bs (R n)) := by
 refine Ev.succ ?_
 simp only [Z47.c, Z47.w]
 refine Ev.succ ?_
 simp only [Z46.c, Z46.w]
 refine open_wp (decls_wp hb ⟨by omega, by omega⟩ fun d q hd hq => values_wp hb hq hd.1 hd.2.1 fun v q1 hv hq1 => oddLiterals_wp hb hq1 hd (by omega) (by omega) fun l q2 hl hq2 => (h d l v hd hl hv).shift.shift)
theorem litsGo_rise {d : List tDecl} : ∀ {l : List tLiteral} {b : Int}, litsGo d l b = true -> (∀ y ∈ l, b < y.1) /\ ∀ y ∈ l, ∀ z ∈ l, y.1 = z.1 -> y = z
 | [], b, h => ⟨fun y hy => (by cases hy), fun y hy => (by cases hy)⟩
 | w :: l, b, h => by
  rw [litsGo, Bool.and_eq_true, Bool.and_eq_true, Bool.and_eq_true, decide_eq_true_eq] at h
  obtain ⟨h1, h2⟩ := litsGo_rise h.2
  have h0 := h.1.1.1
  refine ⟨fun y hy => ?_, fun y hy z hz e => ?_⟩
  ·rcases List.mem_cons.1 hy with rfl | hy
   ·omega
   ·have := h1 y hy; omega
  ·rcases List.mem_cons.1 hy with a1 | a1
   ·rcases List.mem_cons.1 hz with a2 | a2
    ·rw [a1, a2]
    ·have := h1 z a2; rw [a1] at e; omega
   ·rcases List.mem_cons.1 hz with a2 | a2
    ·have := h1 y a1; rw [a2] at e; omega
    ·exact h2 y a1 z a2 e
theorem litsGo_filter {d : List tDecl} (p : tLiteral -> Bool) : ∀ {l : List tLiteral} {b b' : Int}, b' <= b -> litsGo d l b = true -> litsGo d (l.filter p) b' = true
 | [], b, b', hb, h => rfl
 | w :: l, b, b', hb, h => by
  rw [litsGo, Bool.and_eq_true, Bool.and_eq_true, Bool.and_eq_true, decide_eq_true_eq] at h
  by_cases hp : p w = true
  ·rw [List.filter_cons_of_pos hp, litsGo, h.1.1.2, h.1.2, decide_eq_true (by omega), litsGo_filter p (Int.le_refl _) h.2]; rfl
  ·rw [List.filter_cons_of_neg hp]
   exact litsGo_filter p (by omega) h.2
theorem failsGo_zero {v : List tBits} : ∀ {l : List tLiteral}, (∀ y ∈ l, holdsB v y = true) -> failsGo v l = 0
 | [], _ => rfl
 | y :: l, h => by rw [failsGo, if_pos (h y List.mem_cons_self), failsGo_zero fun z hz => h z (List.mem_cons_of_mem _ hz)]
theorem weakened_lp {d : List tDecl} {v : List tBits} {l : List tLiteral} {ids : List Int} (hd : d.length <= 1099511627776) (hw : ∀ b ∈ v, Wd b.2) (hl : l.length <= 60) (hi : ids.length <= 60) (hv : valsOk d v = true) : ∀ (ys : List tLiteral) (c x : Int) (o : List tLiteral), l.drop x.toNat = ys -> 0 <= x -> 0 <= c -> c <= x -> (o.length : Int) <= x -> LitG ys ->
  (∀ y ∈ ys, litsI d [y] = true) -> (∀ y ∈ ys, y.1 ∈ ids ↔ holdsB v y = false) -> ∀ (Kx : Nat -> List tBits -> Int -> List tLiteral -> List tDecl -> List Int -> Prop) (Kr : Nat -> Bool -> Prop), Ev (fun n => Kx n v (c + ((notHeld v ys).length : Int)) (o ++ ys.filter (holdsB v)) d ids) ->
  Ev (fun n => laws_FnWeakened.l13 n v d l ids c x o (Kx n) (Kr n))
 | [], c, x, o, h, h0, hc, hcx, ho, hg, hy, hid, Kx, Kr, hK => by
  have := drop_nil h h0
  refine Ev.succ ?_
  simp only [laws_FnWeakened.l13, laws_FnWeakened.l13.b]
  refine Ev.neg (by simp; omega) ?_
  simp only [notHeld, List.filter_nil, List.length_nil, List.append_nil] at hK
  simpa using hK.shift
 | y :: ys, c, x, o, h, h0, hc, hcx, ho, hg, hy, hid, Kx, Kr, hK => by
  obtain ⟨e1, e2, e3⟩ := drop_cons h h0
  have hs := fun R => holdsS_ev (d := d) (vals := v) (l := y) hd hw (fun z hz => by rw [List.mem_singleton] at hz; subst hz; exact hg _ List.mem_cons_self) R
  have hh : holdsOf d v y = (holdsB v y, true) := by rw [holdsOf, if_pos ⟨hv, hy y List.mem_cons_self⟩]
  have hm := fun R => hasL_ev (l := ids) (a := y.1) (by omega) R
  have hid0 := hid y List.mem_cons_self
  have ih := fun c o hc hcx ho hK => weakened_lp hd hw hl hi hv ys c (x + 1) o e3 (by omega) hc hcx ho (fun z hz => hg z (List.mem_cons_of_mem _ hz)) (fun z hz => hy z (List.mem_cons_of_mem _ hz)) (fun z hz => hid z (List.mem_cons_of_mem _ hz)) (fun n => Kx (n + 1)) (fun n => Kr (n + 1)) hK
  refine Ev.succ ?_
  simp only [laws_FnWeakened.l13, laws_FnWeakened.l13.b, e2]
  refine Ev.pos (by simp; omega) (Ev.grd (by simp; omega) ?_)
  rw [hs, hh]
  refine Ev.grd (by simp; omega) ?_
  rw [hm]
  rw [wrap64 (x := x + 1) (by omega) (by omega)]
  by_cases hb : holdsB v y = true
  ·have hni : y.1 ∉ ids := fun h' => by rw [hid0.1 h'] at hb; cases hb
   rw [decide_eq_false hni, hb]
   refine Ev.neg (by decide) (Ev.pos rfl (Ev.grd (by simp; omega) (Ev.grd (by simp; omega) ?_)))
   refine ih c (o ++ [y]) hc (by omega) (by simp; omega) ?_
   rw [notHeld, List.filter_cons_of_neg (by simp [hb]), List.filter_cons_of_pos hb] at hK
   rw [List.append_assoc]; exact hK.shift
  ·have hbf : holdsB v y = false := by simpa using hb
   rw [decide_eq_true (hid0.2 hbf), hbf]
   refine Ev.neg (by decide) (Ev.neg (by decide) ?_)
   rw [wrap64 (x := c + 1) (by omega) (by omega)]
   refine ih (c + 1) o (by omega) (by omega) (by omega) ?_
   rw [notHeld, List.filter_cons_of_pos (by simp [hbf]), List.filter_cons_of_neg hb] at hK
   have e : c + 1 + ((notHeld v ys).length : Int) = c + (((y :: ys.filter fun z => !(holdsB v z)).length : Nat) : Int) := by simp only [notHeld, List.length_cons]; omega
   rw [e]; exact hK.shift
theorem weakened_law {code : List Int} (hc : Gd (.sl 0 (.int .u8)) code) (K : Bool -> Prop) : True /\ (K true -> Ev (fun n => laws_FnWeakened.c n code K)) := by
 refine ⟨trivial, fun hK => ?_⟩
 refine Ev.succ ?_
 simp only [laws_FnWeakened.c, laws_FnWeakened.w]
 refine big_wp (Ev.ite (fun _ => Ev.const hK) fun hb => ?_)
 have hB := bytes_gd hc (by simpa using hb)
 refine drawWeaken_wp hB fun d l v hd hl hv => ?_
 have hd2 := hd.2.1
 have hl1 := hl.1
 have hg : LitG l := fun y hy => (hl.2 y hy).g y List.mem_cons_self
 have s1 := fun R => weakS_ev (d := d) (vals := v) (l := l) (by omega) hv.wd hg R
 have s2 := fun R => weakI_ev (d := d) (vals := v) (l := l) (by omega) hv.wd hg.w R
 rw [s1, s2]
 simp only [beq_self_eq_true, Bool.not_true, Bool.false_eq_true, if_false]
 by_cases h : valsOk d v = true /\ litsI d l = true
 ·have hlen : l.length <= 60 := by have := h.2; rw [litsI, Bool.and_eq_true, decide_eq_true_eq] at this; exact this.1
  have hgo : litsGo d l 0 = true := by have := h.2; rw [litsI, Bool.and_eq_true] at this; exact this.2
  have hr := litsGo_rise hgo
  have hfl : (notHeld v l).length <= l.length := List.length_filter_le _ _
  have hid : ∀ y ∈ l, y.1 ∈ (notHeld v l).map (fun y => y.1) ↔ holdsB v y = false := fun y hy => by
   rw [List.mem_map]
   constructor
   ·rintro ⟨z, hz, e⟩
    rw [notHeld, List.mem_filter] at hz
    rw [<- hr.2 z hz.1 y hy e]; simpa using hz.2
   ·intro hf
    exact ⟨y, by rw [notHeld, List.mem_filter]; exact ⟨hy, by simp [hf]⟩, rfl⟩
  rw [weakOf, if_pos h]
  simp only [Bool.not_true, Bool.false_eq_true, if_false]
  refine weakened_lp (by omega) hv.wd hlen (by rw [List.length_map]; omega) h.1 l 0 0 [] rfl (by omega) (by omega) (by omega) (by simp) hg (litsI_mem h.2) hid (fun n y52 y53 y54 y55 y56 => if (decide (y53 = (y56.length : Int))) = true then (Z11.c n y55 y52 y54 (fun r59 => K (decide (r59 = 0)))) else (K false)) (fun n => K) ?_
  refine Ev.pos (by simp) ?_
  have hs3 := fun R => failsOf_ev (d := d) (vals := v) (l := l.filter (holdsB v)) (by omega) hv.wd (fun y hy => hg.w y (List.mem_filter.1 hy).1) R
  have hli : litsI d (l.filter (holdsB v)) = true := by
   rw [litsI, decide_eq_true (Nat.le_trans (List.length_filter_le _ _) hlen), litsGo_filter _ (Int.le_refl _) hgo]; rfl
  rw [List.nil_append, hs3, failsOf, if_pos ⟨h.1, hli⟩, failsGo_zero fun y hy => (List.mem_filter.1 hy).2]
  exact Ev.const (by simpa using hK)
 ·rw [weakOf, if_neg h]
  simp only [Bool.not_false, if_true, List.length_nil]
  exact Ev.const (by simpa using hK)
end Go.Vsi
end
