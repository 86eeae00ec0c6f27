/- What the told functions answer. No statement is proved here. -/
import Derived.Test.YtbpgfmandlhnaaaB1

section
set_option linter.unusedVariables false
set_option linter.unusedSimpArgs false
set_option synthInstance.maxSize 4096
namespace Go.Vsi
theorem NodG.app {N : List tTNode} {x : tTNode} (hN : ∀ y ∈ N, NodG N.length y) (hx : NodG (N.length + 1) x) : ∀ y ∈ N ++ [x], NodG (N ++ [x]).length y := by
 rw [List.length_append, List.length_singleton]
 exact mem_appL (fun y hy => (hN y hy).mono (by omega)) (mem_oneL hx)
theorem NodG.of {n : Nat} {op v a b w : Int} {ws ks : List Int} (hw : Wd ws) (hl : ws.length <= 4096) (hk : ks.length <= 3) (h : ∀ k ∈ ks, 0 <= k /\ k < (n : Int)) : NodG n (op, v, a, b, w, ws, ks) := ⟨hw, hl, hk, h⟩
theorem grow_lp_wp {bs : List Int} (hb : Bytes bs) {d : List tDecl} (hd : DDecls d) {want : Int} {z : List tTNode} : ∀ (m : Nat) (count top wide : Int) (N : List tTNode) (p : Int), count = m -> m <= 7 -> N.length + 2 * m <= 14 -> (∀ x ∈ N, NodG N.length x) ->
  ((top = -1 /\ N = [] /\ 1 <= m) \/ (0 <= top /\ top < (N.length : Int) /\ 1 <= wide /\ wide <= 200)) -> Pos bs p -> ∀ R : Nat -> List tDecl -> Int -> Int -> List tTNode -> List tTNode -> List Int -> Int -> Prop,
  (∀ top' N' q, N'.length <= 14 -> (∀ x ∈ N', NodG N'.length x) -> 0 <= top' -> top' < (N'.length : Int) -> Pos bs q -> Ev (fun n => R n d want top' N' z bs q)) -> Ev (fun n => Z91.l5 n d want top wide count N z bs p (R n))
 | 0, count, top, wide, N, p, hc, hm, hl, hN, hI, hp, R, hR => by
  refine Ev.succ ?_
  simp only [Z91.l5, Z91.l5.b]
  refine Ev.neg (by first | (simp; done) | (simp; omega)) ?_
  rcases hI with ⟨_, _, h⟩ | ⟨h1, h2, _⟩
  ·omega
  ·exact (hR top N p (by omega) hN h1 h2 hp).shift
 | m + 1, count, top, wide, N, p, hc, hm, hl, hN, hI, hp, R, hR => by
  obtain ⟨d1, d2, d3⟩ := hd
  have e : IntKind.wrap .i64 (count - 1) = (m : Int) := by rw [wrap64] <;> omega
  have e2 : ∀ L : tTNode, IntKind.wrap .i64 (((N ++ [L]).length : Int) - 1) = (N.length : Int) := fun L => by rw [wrap64] <;> simp <;> omega
  have e3 : ∀ L x : tTNode, IntKind.wrap .i64 ((((N ++ [L]) ++ [x]).length : Int) - 1) = (N.length : Int) + 1 := fun L x => by rw [wrap64] <;> simp <;> omega
  have again : ∀ (tp wd : Int) (N' : List tTNode) (q : Int), N'.length + 2 * m <= 14 -> (∀ x ∈ N', NodG N'.length x) -> 0 <= tp -> tp < (N'.length : Int) -> 1 <= wd -> wd <= 200 -> Pos bs q -> Ev (fun n => Z91.l5 n d want tp wd m N' z bs q (R (n + 1))) := fun tp wd N' q h1 h2 h3 h4 h5 h6 h7 =>
   grow_lp_wp hb ⟨d1, d2, d3⟩ m m tp wd N' q rfl (by omega) h1 h2 (.inr ⟨h3, h4, h5, h6⟩) h7 (fun n => R (n + 1)) fun t' N'' q' k1 k2 k3 k4 k5 => (hR t' N'' q' k1 k2 k3 k4 k5).shift
  have j : ∀ (wd : Int) (x : tTNode) (N' : List tTNode) (tp q : Int), 1 <= wd -> N'.length <= N.length + 1 -> N.length <= N'.length -> (∀ x ∈ N', NodG N'.length x) -> NodG (N'.length + 1) x -> tp = (N'.length : Int) -> 0 <= top -> top < (N.length : Int) -> Pos bs q ->
    Ev (fun n => if wd > 200 then R (n + 1) d want top N' z bs q else grd (decide (N'.length + [x].length <= 790660046940)) (Z91.l5 n d want tp wd m (N' ++ [x]) z bs q (R (n + 1)))) := fun wd x N' tp q h1 h2 h3 h4 h5 h6 h7 h8 h9 => by
   refine Ev.ite (fun _ => (hR top N' q (by omega) h4 h7 (by omega) h9).shift) fun hw => Ev.grd (by first | (simp; done) | (simp; omega)) (again tp wd _ q (by first | (simp; done) | (simp; omega)) (NodG.app h4 h5) (by omega) (by first | (simp; done) | (simp; omega)) h1 (by omega) h9)
  have kd0 : ∀ n : Nat, ∀ k ∈ ([] : List Int), 0 <= k /\ k < (n : Int) := fun n k hk => by cases hk
  refine Ev.succ ?_
  simp only [Z91.l5, Z91.l5.b, Z91.j13, Z91.j14, Z91.j15, Z91.j16, e, e2, e3, decide_eq_true_eq]
  refine Ev.pos (by omega) (below_wp hb hp (by omega) fun v q v1 v2 hq => Ev.grd (by first | (simp; done) | (simp; omega)) (once_wp hb hq (by omega) fun o q1 hq1 => ?_))
  have hdv := rd_memL (P := fun x : tDecl => 1 <= x.2 /\ x.2 <= 200) d3 (i := v.toNat) (by omega)
  have n0 : (1 : Int) <= 1 := by omega
  refine Ev.ite (fun _ => below_wp hb hq1 (by omega) fun r q2 r1 r2 hq2 => ?_) fun _ => Ev.ite (fun ht => ?_) fun ht => ?_
  ·
   have er : IntKind.wrap .i64 (1 + r) = 1 + r := wrap64 (by omega) (by omega)
   simp only [er]
   refine bits_wp hb hq2 (by omega) (by omega) fun ws q3 hws hwd hq3 => ?_
   have hL : ∀ n : Nat, NodG n (2, 0, 0, 0, 1 + r, ws, []) := fun n => NodG.of hwd (by omega) (by simp) (kd0 n)
   refine Ev.ite (fun ht => ?_) fun ht => ?_
   ·refine Ev.grd (by first | (simp; done) | (simp; omega)) (again _ _ _ _ (by first | (simp; done) | (simp; omega)) (NodG.app hN (hL _)) (by omega) (by first | (simp; done) | (simp; omega)) (by omega) (by omega) hq3)
   ·obtain ⟨h1, h2, h3, h4⟩ : 0 <= top /\ top < (N.length : Int) /\ 1 <= wide /\ wide <= 200 := hI.resolve_left fun h => by omega
    have hNL := NodG.app hN (hL (N.length + 1))
    have k1 : ∀ n : Nat, N.length < n -> ∀ k ∈ [top], 0 <= k /\ k < (n : Int) := fun n hn k hk => by rw [List.mem_singleton.1 hk]; omega
    have k2 : ∀ n : Nat, N.length < n -> ∀ k ∈ [(N.length : Int), top], 0 <= k /\ k < (n : Int) := fun n hn k hk => by simp at hk; omega
    have k2' : ∀ n : Nat, N.length < n -> ∀ k ∈ [top, (N.length : Int)], 0 <= k /\ k < (n : Int) := fun n hn k hk => by simp at hk; omega
    have k3 : ∀ n : Nat, N.length < n -> ∀ k ∈ [(N.length : Int), top] ++ [top], 0 <= k /\ k < (n : Int) := fun n hn k hk => by simp at hk; omega
    have k3' : ∀ n : Nat, N.length < n -> ∀ k ∈ [top, (N.length : Int)] ++ [top], 0 <= k /\ k < (n : Int) := fun n hn k hk => by simp at hk; omega
    have hl1 : ∀ L : tTNode, (N ++ [L]).length = N.length + 1 := fun L => by simp
    refine near_wp hb hq3 ⟨by omega, by omega⟩ ⟨by omega, by omega⟩ (by omega) fun op q4 _ _ hq4 => Ev.ite (fun _ => Ev.grd (by first | (simp; done) | (simp; omega)) (once_wp hb hq4 (by omega) fun o1 q5 hq5 => Ev.ite (fun _ => once_wp hb hq5 (by omega) fun o2 q6 hq6 => Ev.ite (fun _ => Ev.grd (by simp) ?_) fun _ => ?_) fun _ => once_wp hb hq5 (by omega) fun o2 q6 hq6 => Ev.ite (fun _ => Ev.grd (by simp) ?_) fun _ => ?_)) fun _ => Ev.ite (fun _ => ?_) fun _ => Ev.ite (fun _ => ?_) fun _ => ?_
    ·exact j _ _ _ _ _ (by simp (disch := omega) only [wrap64]; omega) (by simp) (by simp) hNL (NodG.of Wd.nil (by simp) (by simp) (k3 _ (by first | (simp; done) | (simp; omega)))) (by simp) h1 h2 hq6
    ·exact j _ _ _ _ _ (by simp (disch := omega) only [wrap64]; omega) (by simp) (by simp) hNL (NodG.of Wd.nil (by simp) (by simp) (k2 _ (by first | (simp; done) | (simp; omega)))) (by simp) h1 h2 hq6
    ·exact j _ _ _ _ _ (by simp (disch := omega) only [wrap64]; omega) (by simp) (by simp) hNL (NodG.of Wd.nil (by simp) (by simp) (k3' _ (by first | (simp; done) | (simp; omega)))) (by simp) h1 h2 hq6
    ·exact j _ _ _ _ _ (by simp (disch := omega) only [wrap64]; omega) (by simp) (by simp) hNL (NodG.of Wd.nil (by simp) (by simp) (k2' _ (by first | (simp; done) | (simp; omega)))) (by simp) h1 h2 hq6
    ·rw [wrap64 (x := wide - 1) (by omega) (by omega)]
     refine near_wp hb hq4 ⟨by omega, by omega⟩ ⟨by omega, by omega⟩ (by omega) fun A q5 _ hA hq5 => near_wp hb hq5 ⟨by omega, by omega⟩ ⟨by omega, by omega⟩ (by omega) fun B q6 _ hB hq6 => ?_
     exact j _ _ _ _ _ (by simp (disch := omega) only [wrap64]; omega) (by simp) (by simp) hN (NodG.of Wd.nil (by simp) (by simp) (k1 _ (by omega))) (by simp) h1 h2 hq6
    ·refine q34_wp hb hq4 h3 h4 fun wd' c' q5 w1 w2 hq5 => ?_
     simp only [e, e2]; exact j _ _ _ _ _ (by omega) (by simp) (by simp) hN (NodG.of Wd.nil (by simp) (by simp) (k1 _ (by omega))) rfl h1 h2 hq5
    ·refine q34_wp hb hq4 h3 h4 fun wd' c' q5 w1 w2 hq5 => ?_
     simp only [e, e2]; exact j _ _ _ _ _ (by omega) (by simp) (by simp) hN (NodG.of Wd.nil (by simp) (by simp) (k1 _ (by omega))) rfl h1 h2 hq5
  ·refine Ev.grd (by first | (simp; done) | (simp; omega)) (again _ _ _ _ (by first | (simp; done) | (simp; omega)) (NodG.app hN (NodG.of Wd.nil (by simp) (by simp) (kd0 _))) (by omega) (by first | (simp; done) | (simp; omega)) (by omega) (by omega) hq1)
  ·
   have hL : ∀ n : Nat, NodG n (1, v, 0, 0, 0, [], []) := fun n => NodG.of Wd.nil (by simp) (by simp) (kd0 n)
   obtain ⟨h1, h2, h3, h4⟩ : 0 <= top /\ top < (N.length : Int) /\ 1 <= wide /\ wide <= 200 := hI.resolve_left fun h => by omega
   have hNL := NodG.app hN (hL (N.length + 1))
   have k1 : ∀ n : Nat, N.length < n -> ∀ k ∈ [top], 0 <= k /\ k < (n : Int) := fun n hn k hk => by rw [List.mem_singleton.1 hk]; omega
   have k2 : ∀ n : Nat, N.length < n -> ∀ k ∈ [(N.length : Int), top], 0 <= k /\ k < (n : Int) := fun n hn k hk => by simp at hk; omega
   have k2' : ∀ n : Nat, N.length < n -> ∀ k ∈ [top, (N.length : Int)], 0 <= k /\ k < (n : Int) := fun n hn k hk => by simp at hk; omega
   have k3 : ∀ n : Nat, N.length < n -> ∀ k ∈ [(N.length : Int), top] ++ [top], 0 <= k /\ k < (n : Int) := fun n hn k hk => by simp at hk; omega
   have k3' : ∀ n : Nat, N.length < n -> ∀ k ∈ [top, (N.length : Int)] ++ [top], 0 <= k /\ k < (n : Int) := fun n hn k hk => by simp at hk; omega
   refine near_wp hb hq1 ⟨by omega, by omega⟩ ⟨by omega, by omega⟩ (by omega) fun op q4 _ _ hq4 => Ev.ite (fun _ => Ev.grd (by first | (simp; done) | (simp; omega)) (once_wp hb hq4 (by omega) fun o1 q5 hq5 => Ev.ite (fun _ => once_wp hb hq5 (by omega) fun o2 q6 hq6 => Ev.ite (fun _ => Ev.grd (by simp) ?_) fun _ => ?_) fun _ => once_wp hb hq5 (by omega) fun o2 q6 hq6 => Ev.ite (fun _ => Ev.grd (by simp) ?_) fun _ => ?_)) fun _ => Ev.ite (fun _ => ?_) fun _ => Ev.ite (fun _ => ?_) fun _ => ?_
   ·exact j _ _ _ _ _ (by simp (disch := omega) only [wrap64]; omega) (by simp) (by simp) hNL (NodG.of Wd.nil (by simp) (by simp) (k3 _ (by first | (simp; done) | (simp; omega)))) (by simp) h1 h2 hq6
   ·exact j _ _ _ _ _ (by simp (disch := omega) only [wrap64]; omega) (by simp) (by simp) hNL (NodG.of Wd.nil (by simp) (by simp) (k2 _ (by first | (simp; done) | (simp; omega)))) (by simp) h1 h2 hq6
   ·exact j _ _ _ _ _ (by simp (disch := omega) only [wrap64]; omega) (by simp) (by simp) hNL (NodG.of Wd.nil (by simp) (by simp) (k3' _ (by first | (simp; done) | (simp; omega)))) (by simp) h1 h2 hq6
   ·exact j _ _ _ _ _ (by simp (disch := omega) only [wrap64]; omega) (by simp) (by simp) hNL (NodG.of Wd.nil (by simp) (by simp) (k2' _ (by first | (simp; done) | (simp; omega)))) (by simp) h1 h2 hq6
   ·rw [wrap64 (x := wide - 1) (by omega) (by omega)]
    refine near_wp hb hq4 ⟨by omega, by omega⟩ ⟨by omega, by omega⟩ (by omega) fun A q5 _ hA hq5 => near_wp hb hq5 ⟨by omega, by omega⟩ ⟨by omega, by omega⟩ (by omega) fun B q6 _ hB hq6 => ?_
    exact j _ _ _ _ _ (by simp (disch := omega) only [wrap64]; omega) (by simp) (by simp) hN (NodG.of Wd.nil (by simp) (by simp) (k1 _ (by omega))) (by simp) h1 h2 hq6
   ·refine q34_wp hb hq4 h3 h4 fun wd' c' q5 w1 w2 hq5 => ?_
    simp only [e, e2]; exact j _ _ _ _ _ (by omega) (by simp) (by simp) hN (NodG.of Wd.nil (by simp) (by simp) (k1 _ (by omega))) rfl h1 h2 hq5
   ·refine q34_wp hb hq4 h3 h4 fun wd' c' q5 w1 w2 hq5 => ?_
    simp only [e, e2]; exact j _ _ _ _ _ (by omega) (by simp) (by simp) hN (NodG.of Wd.nil (by simp) (by simp) (k1 _ (by omega))) rfl h1 h2 hq5
theorem grow_wp {bs : List Int} {p want : Int} {d : List tDecl} {R : Nat -> List tTNode -> List Int -> Int -> Prop} (hb : Bytes bs) (hp : Pos bs p) (hd : DDecls d) (h : ∀ t q, DTerm t -> Pos bs q -> Ev (fun n => R n t bs q)) :
  Ev (fun n => Z91.c n bs p d want (R n)) := by
 have hl := hb.2
 obtain ⟨d1, d2, d3⟩ := hd
 refine Ev.succ ?_
 simp only [Z91.c, Z91.w]
 rw [tdivP (by omega), wrap64 (x := (bs.length : Int) / 12) (by omega) (by omega), wrap64 (x := 2 + (bs.length : Int) / 12) (by omega) (by omega)]
 refine below_wp hb hp (by split <;> omega) fun r q h1 h2 hq => ?_
 have hr : r <= 6 := by split at h2 <;> omega
 rw [wrap64 (x := 1 + r) (by omega) (by omega)]
 refine grow_lp_wp hb ⟨d1, d2, d3⟩ (1 + r).toNat (1 + r) (-1) 0 [] q (by omega) (by omega) (by first | (simp; done) | (simp; omega)) (fun x hx => by cases hx) (.inl ⟨rfl, rfl, by omega⟩) hq (fun n y1565 y1566 y1567 y1568 y1569 y1570 y1571 => Z94.c n y1568 y1567 _) fun top N q1 n1 n2 n3 n4 hq1 => ?_
 refine prune_wp (by omega) n2 n3 n4 fun t t1 t2 t3 => Ev.ite (fun _ => ?_) fun _ => (h t q1 ⟨t3, by omega, t2⟩ hq1).shift
 rw [widthOfS_ev (d := d) (t := t) (by omega) (fun x hx => ⟨(t2 x hx).1, by have := (t2 x hx).2.2; omega⟩)]
 exact fit_wp (by omega) t2 fun t' f1 f2 f3 => (h t' q1 ⟨by omega, by omega, f3⟩ hq1).shift
end Go.Vsi
end

section
set_option linter.unusedVariables false
set_option linter.unusedSimpArgs false
set_option synthInstance.maxSize 4096
namespace Go.Vsi
def OutG4 (x : tTNode) : Prop := Wd x.2.2.2.2.2.1 /\ x.2.2.2.2.2.1.length <= 4096 /\ x.2.2.2.2.2.2.length <= 4
def DT (t : List tTNode) : Prop := t.length <= 402 /\ ∀ x ∈ t, OutG4 x
theorem OutG.four {x : tTNode} (h : OutG x) : OutG4 x := ⟨h.1, h.2.1, by have := h.2.2; omega⟩
theorem DTerm.dt {t : List tTNode} (h : DTerm t) : DT t := ⟨by have := h.2.1; omega, fun x hx => OutG.four (h.2.2 x hx)⟩
theorem DT.wd {t : List tTNode} (h : DT t) : ∀ x ∈ t, Wd x.2.2.2.2.2.1 /\ x.2.2.2.2.2.2.length <= 1099511627776 := fun x hx => ⟨(h.2 x hx).1, by have := (h.2 x hx).2.2; omega⟩
theorem OutG4.of {op v a b w : Int} {ws ks : List Int} (hw : Wd ws) (hl : ws.length <= 4096) (hk : ks.length <= 4) : OutG4 (op, v, a, b, w, ws, ks) := ⟨hw, hl, hk⟩
theorem odd17_wp {bs : List Int} (hb : Bytes bs) {z : List tTNode} : ∀ (m : Nat) (N : List tTNode) (p : Int), N.length + m = 402 -> (∀ x ∈ N, OutG4 x) -> Pos bs p -> ∀ R : Nat -> List tTNode -> List tTNode -> List Int -> Int -> Prop,
  (∀ N' q, DT N' -> Pos bs q -> Ev (fun n => R n z N' bs q)) -> Ev (fun n => Z79.l17 n z N bs p (R n))
 | 0, N, p, hm, hN, hp, R, hR => by
  refine Ev.succ ?_
  simp only [Z79.l17, Z79.l17.b, and_self]
  refine below_wp hb hp (by omega) fun r q r1 r2 hq => ?_
  rw [wrap64 (by omega) (by omega)]
  exact Ev.neg (by simp; omega) (hR N q ⟨by omega, hN⟩ hq).shift
 | m + 1, N, p, hm, hN, hp, R, hR => by
  refine Ev.succ ?_
  simp only [Z79.l17, Z79.l17.b, Z79.j1, and_self]
  refine below_wp hb hp (by omega) fun r q r1 r2 hq => Ev.ite (fun _ => Ev.grd (by simp; omega) ?_) fun _ => (hR N q ⟨by omega, hN⟩ hq).shift
  exact odd17_wp hb m _ q (by simp; omega) (mem_appL hN (mem_oneL (OutG4.of Wd.nil (by simp) (by simp)))) hq (fun n => R (n + 1)) fun N' q' h1 h2 => (hR N' q' h1 h2).shift
theorem odd21_wp {bs : List Int} {d : List tDecl} (hd : d.length <= 7) {z : List tTNode} {p : Int} (hp : Pos bs p) : ∀ (m : Nat) (x : Int) (N : List tTNode), x + m = 40 -> N.length + 2 * m <= 400 -> (∀ x ∈ N, OutG4 x) -> ∀ R : Nat -> List tTNode -> List tTNode -> List Int -> Int -> Prop,
  (∀ N', DT N' -> Ev (fun n => R n z N' bs p)) -> Ev (fun n => Z79.l21 n d z bs p x N (R n))
 | 0, x, N, hm, hl, hN, R, hR => by
  refine Ev.succ ?_
  simp only [Z79.l21, Z79.l21.b]
  exact Ev.neg (by simp; omega) (hR N ⟨by omega, hN⟩).shift
 | m + 1, x, N, hm, hl, hN, R, hR => by
  have hw := fun R => widthOfS_ev (d := d) (t := N) (by omega) (fun x hx => ⟨(hN x hx).1, by have := (hN x hx).2.2; omega⟩) R
  refine Ev.succ ?_
  simp only [Z79.l21, Z79.l21.b, Z79.j5]
  refine Ev.pos (by simp; omega) ?_
  rw [hw]
  refine Ev.ite (fun _ => Ev.ite (fun _ => (hR N ⟨by omega, hN⟩).shift) fun _ => Ev.grd (by simp; omega) ?_) fun _ => (hR N ⟨by omega, hN⟩).shift
  rw [wrap64 (x := x + 1) (by omega) (by omega)]
  refine odd21_wp hd hp m (x + 1) _ (by omega) (by simp; omega) (mem_appL hN fun y hy => ?_) (fun n => R (n + 1)) fun N' h1 => (hR N' h1).shift
  simp only [List.mem_cons, List.not_mem_nil, or_false] at hy
  rcases hy with rfl | rfl
  ·exact OutG4.of Wd.nil (by simp) (by simp)
  ·exact OutG4.of Wd.nil (by simp) (by simp)
theorem oddTerm_wp {bs : List Int} {p want : Int} {d : List tDecl} {R : Nat -> List tTNode -> List Int -> Int -> Prop} (hb : Bytes bs) (hp : Pos bs p) (hd : DDecls d) (h : ∀ t q, DT t -> Pos bs q -> Ev (fun n => R n t bs q)) :
  Ev (fun n => Z79.c n bs p d want (R n)) := by
 have hd2 := hd.2.1
 have q1 : ∀ (t z : List tTNode) (q : Int), DT t -> Pos bs q -> Ev (fun n => Z79.q27 n t z bs q (fun y1 y2 y3 => R (n + 1) y1 y2 y3)) := fun t z q ht hq => by
  refine Ev.succ ?_; simp only [Z79.q27, Z79.q27.b]; exact (h t q ht hq).shift.shift
 have q2 : ∀ (t z : List tTNode) (q : Int), DT t -> Pos bs q -> Ev (fun n => Z79.q27_1 n t z bs q (fun y1 y2 y3 => R (n + 1) y1 y2 y3)) := fun t z q ht hq => by
  refine Ev.succ ?_; simp only [Z79.q27_1, Z79.q27_1.b]; exact (h t q ht hq).shift.shift
 have q3 : ∀ (t z : List tTNode) (q : Int), DT t -> Pos bs q -> Ev (fun n => Z79.q27_2 n z t bs q (fun y1 y2 y3 => R (n + 1) y1 y2 y3)) := fun t z q ht hq => by
  refine Ev.succ ?_; simp only [Z79.q27_2, Z79.q27_2.b]; exact (h t q ht hq).shift.shift
 refine Ev.succ ?_
 simp only [Z79.c, Z79.w, and_self]
 refine grow_wp hb hp hd fun t q ht hq => below_wp hb hq (by have := ht.1; omega) fun i q5 i1 i2 hq5 => below_wp hb hq5 (by omega) fun r q6 _ _ hq6 => ?_
 obtain ⟨t1, t2, t3⟩ := ht
 have hx := rd_memL (P := OutG) t3 (i := i.toNat) (by omega)
 have hT : ∀ y ∈ t, OutG4 y := fun y hy => OutG.four (t3 y hy)
 have hs : ∀ y : tTNode, OutG4 y -> DT (List.set t i.toNat y) := fun y hy => ⟨by simp; omega, mem_setL hT hy⟩
 have h4 : OutG4 (rd t i.toNat) := OutG.four hx
 have hg : (decide (0 <= i) && decide (i < (t.length : Int))) = true := by simp; omega
 refine Ev.ite (fun _ => ?_) fun _ => Ev.ite (fun _ => ?_) fun _ => Ev.ite (fun _ => ?_) fun _ => Ev.ite (fun _ => ?_) fun _ => Ev.ite (fun _ => ?_) fun _ => Ev.ite (fun _ => ?_) fun _ => Ev.ite (fun _ => ?_) fun _ => Ev.ite (fun _ => ?_) fun _ => q1 _ _ _ ⟨by omega, hT⟩ hq6
 ·exact off_wp hb hq6 ⟨by omega, by omega⟩ ⟨by omega, by omega⟩ (by omega) fun v q7 _ hq7 => Ev.grd hg (q1 _ _ _ (hs _ ⟨h4.1, h4.2.1, h4.2.2⟩) hq7)
 ·exact off_wp hb hq6 ⟨by omega, by omega⟩ ⟨by omega, by omega⟩ (by omega) fun v q7 _ hq7 => Ev.grd hg (q1 _ _ _ (hs _ ⟨h4.1, h4.2.1, h4.2.2⟩) hq7)
 ·exact off_wp hb hq6 ⟨by omega, by omega⟩ ⟨by omega, by omega⟩ (by omega) fun v q7 _ hq7 => Ev.grd hg (q1 _ _ _ (hs _ ⟨h4.1, h4.2.1, h4.2.2⟩) hq7)
 ·exact off_wp hb hq6 ⟨by omega, by omega⟩ ⟨by omega, by omega⟩ (by omega) fun v q7 _ hq7 => Ev.grd hg (q1 _ _ _ (hs _ ⟨h4.1, h4.2.1, h4.2.2⟩) hq7)
 ·have key : ∀ (v q7 : Int), Pos bs q7 -> Ev (fun n => Z79.q27 n (List.set t i.toNat ((rd t i.toNat).1, (rd t i.toNat).2.1, (rd t i.toNat).2.2.1, (rd t i.toNat).2.2.2.1, (rd t i.toNat).2.2.2.2.1, (rd t i.toNat).2.2.2.2.2.1, (rd t i.toNat).2.2.2.2.2.2 ++ [v])) [] bs q7 (fun y1 y2 y3 => R (n + 1) y1 y2 y3)) := fun v q7 hq7 =>
   q1 _ _ _ (hs _ (OutG4.of h4.1 h4.2.1 (by have := hx.2.2; simp; omega))) hq7
  have hk : ∀ v : Int, decide ((rd t i.toNat).2.2.2.2.2.2.length + ([v] : List Int).length <= 7818749353073) = true := fun v => by have := hx.2.2; simp; omega
  simp only [hg, hk, decide_true, grd_true, and_self]
  exact off_wp hb hq6 ⟨by omega, by omega⟩ ⟨by omega, by omega⟩ (by omega) fun v q7 _ hq7 => key v q7 hq7
 ·exact Ev.grd (by simp; omega) (q2 _ _ _ ⟨by simp; omega, mem_appL hT (mem_oneL (OutG4.of Wd.nil (by simp) (by simp)))⟩ hq6)
 ·exact odd17_wp hb (402 - t.length) t q6 (by omega) hT hq6 (fun n y389 y390 y391 y392 => Z79.q27_2 n y389 y390 y391 y392 (fun y397 y398 y399 => R (n + 1) y397 y398 y399)) fun N' q7 hN hq7 => q3 _ _ _ hN hq7
 ·exact odd21_wp (by omega) hq6 40 0 t (by omega) (by omega) hT (fun n y389 y390 y391 y392 => Z79.q27_2 n y389 y390 y391 y392 (fun y397 y398 y399 => R (n + 1) y397 y398 y399)) fun N' hN => q3 _ _ _ hN hq6
def DL (l : tLiteral) : Prop := DT l.2.2.1 /\ DT l.2.2.2
theorem DL.of {i : Int} {e : Bool} {s t : List tTNode} (hs : DT s) (ht : DT t) : DL (i, e, s, t) := ⟨hs, ht⟩
theorem literal_wp {bs : List Int} {p id : Int} {d : List tDecl} {R : Nat -> Int -> Bool -> List tTNode -> List tTNode -> List Int -> Int -> Prop} (hb : Bytes bs) (hp : Pos bs p) (hd : DDecls d)
  (h : ∀ e s t q, DT s -> DT t -> Pos bs q -> Ev (fun n => R n id e s t bs q)) : Ev (fun n => Z99.c n bs p d id (R n)) := by
 have hd1 := hd.1; have hd2 := hd.2.1
 have g : ∀ (e : Bool) (s : List tTNode) (w q : Int), DT s -> Pos bs q -> Ev (fun n => Z91.c n bs q d w (fun r50 r51 r52 => R (n + 1) id e s r50 r51 r52)) := fun e s w q hs hq => grow_wp hb hq hd fun t q' ht hq' => (h e s t q' hs ht.dt hq').shift
 refine Ev.succ ?_
 simp only [Z99.c, Z99.w, and_self]
 refine grow_wp hb hp hd fun s q hs hq => ?_
 have hw := fun R => widthOfS_ev (d := d) (t := s) (by omega) (hs.dt.wd) R
 have hs' : ∀ y ∈ s, OutG y := hs.2.2
 have fd : ∀ t : List tTNode, t.length <= s.length + 1 -> (∀ x ∈ t, OutG x) -> DT t := fun t h1 h2 => ⟨by have := hs.2.1; omega, fun x hx => OutG.four (h2 x hx)⟩
 rw [hw]
 refine once_wp hb hq (by omega) fun o q1 hq1 => Ev.ite (fun _ => below_wp hb hq1 (by omega) fun v q2 v1 v2 hq2 => Ev.grd (by simp; omega) (Ev.ite (fun _ => ?_) fun _ => ?_)) fun _ => Ev.ite (fun _ => ?_) fun _ => ?_
 ·have hf : ∀ t : List tTNode, t.length <= 2 -> (∀ x ∈ t, OutG x) -> DT t := fun t h1 h2 => ⟨by omega, fun x hx => OutG.four (h2 x hx)⟩
  refine fit_wp (by simp) (mem_oneL ⟨Wd.nil, by simp, by simp⟩) fun t' f1 f2 f3 => ?_
  exact once_wp hb hq2 (by omega) fun o q3 hq3 => g _ _ _ _ (hf t' (by simpa using f2) f3) hq3
 ·exact once_wp hb hq2 (by omega) fun o q3 hq3 => g _ _ _ _ ⟨by simp, mem_oneL (OutG4.of Wd.nil (by simp) (by simp))⟩ hq3
 ·refine fit_wp (by have := hs.2.1; omega) hs' fun t' f1 f2 f3 => ?_
  exact once_wp hb hq1 (by omega) fun o q3 hq3 => g _ _ _ _ (fd t' f2 f3) hq3
 ·exact once_wp hb hq1 (by omega) fun o q3 hq3 => g _ _ _ _ hs.dt hq3
theorem size_wp {bs : List Int} {p per most : Int} {R : Nat -> Int -> List Int -> Int -> Prop} (hb : Bytes bs) (hp : Pos bs p) (h1 : 1 <= per) (h2 : 1 <= most) (h3 : most <= 1000) (h : ∀ r q, 1 <= r -> r <= most -> Pos bs q -> Ev (fun n => R n r bs q)) :
  Ev (fun n => Z82.c n bs p per most (R n)) := by
 have hl := hb.2
 refine Ev.succ ?_
 simp only [Z82.c, Z82.w]
 have e0 : 0 <= Int.tdiv (bs.length : Int) per /\ Int.tdiv (bs.length : Int) per <= (bs.length : Int) := by
  rw [tdivP (by omega)]; exact ⟨Int.ediv_nonneg (by omega) (by omega), Int.ediv_le_self _ (by omega)⟩
 generalize Int.tdiv (bs.length : Int) per = k at e0 ⊢
 rw [wrap64 (x := k) (by omega) (by omega), wrap64 (x := 1 + k) (by omega) (by omega)]
 refine Ev.grd (by simp; omega) (Ev.ite (fun _ => below_wp hb hp h2 fun r q r1 r2 hq => ?_) fun hk => below_wp hb hp (by omega) fun r q r1 r2 hq => ?_)
 ·rw [wrap64 (by omega) (by omega)]; exact (h _ _ (by omega) (by omega) hq).shift
 ·simp only [decide_eq_true_eq] at hk
  rw [wrap64 (by omega) (by omega)]; exact (h _ _ (by omega) (by omega) hq).shift
theorem literals_lp_wp {bs : List Int} (hb : Bytes bs) {d : List tDecl} (hd : DDecls d) : ∀ (m : Nat) (c id : Int) (N : List tLiteral) (p : Int), c = m -> m <= 1000 -> N.length + m <= 2000 -> (∀ x ∈ N, DL x) -> Pos bs p -> ∀ R : Nat -> List tLiteral -> List Int -> Int -> Prop,
  (∀ N' q, N'.length = N.length + m -> (∀ x ∈ N', DL x) -> Pos bs q -> Ev (fun n => R n N' bs q)) -> Ev (fun n => Z75.l4 n d id c N bs p (R n))
 | 0, c, id, N, p, hc, hm, hl, hN, hp, R, hR => by
  refine Ev.succ ?_
  simp only [Z75.l4, Z75.l4.b]
  exact Ev.neg (by simp; omega) (hR N p rfl hN hp).shift
 | m + 1, c, id, N, p, hc, hm, hl, hN, hp, R, hR => by
  have e : IntKind.wrap .i64 (c - 1) = (m : Int) := by rw [wrap64] <;> omega
  refine Ev.succ ?_
  simp only [Z75.l4, Z75.l4.b, e]
  refine Ev.pos (by simp; omega) (below_wp hb hp (by omega) fun r q _ _ hq => literal_wp hb hq hd fun e s t q1 hs ht hq1 => Ev.grd (by simp; omega) ?_)
  exact literals_lp_wp hb hd m m _ _ q1 rfl (by omega) (by simp; omega) (mem_appL hN (mem_oneL ⟨hs, ht⟩)) hq1 (fun n => R (n + 1)) fun N' q' h1 h2 h3 => (hR N' q' (by rw [h1, List.length_append, List.length_singleton]; omega) h2 h3).shift
theorem literals_wp {bs : List Int} {p most : Int} {d : List tDecl} {R : Nat -> List tLiteral -> List Int -> Int -> Prop} (hb : Bytes bs) (hp : Pos bs p) (hd : DDecls d) (h1 : 1 <= most) (h2 : most <= 60)
  (h : ∀ l q, 1 <= l.length -> (l.length : Int) <= most -> (∀ x ∈ l, DL x) -> Pos bs q -> Ev (fun n => R n l bs q)) : Ev (fun n => Z75.c n bs p d most (R n)) := by
 refine Ev.succ ?_
 simp only [Z75.c, Z75.w]
 refine size_wp hb hp (by omega) h1 (by omega) fun r q r1 r2 hq => ?_
 exact literals_lp_wp hb hd r.toNat r 0 [] q (by omega) (by omega) (by simp; omega) (fun x hx => by cases hx) hq (fun n => R (n + 1)) fun N' q' k1 k2 k3 => (h N' q' (by simp at k1; omega) (by simp at k1; omega) k2 k3).shift
theorem odd9_wp {bs : List Int} (hb : Bytes bs) : ∀ (m : Nat) (N : List tLiteral) (p : Int), N.length + m = 62 -> 1 <= N.length -> (∀ x ∈ N, DL x) -> Pos bs p -> ∀ R : Nat -> List tLiteral -> List Int -> Int -> Prop,
  (∀ N' q, N'.length <= 62 -> (∀ x ∈ N', DL x) -> Pos bs q -> Ev (fun n => R n N' bs q)) -> Ev (fun n => Z78.l9 n N bs p (R n))
 | 0, N, p, hm, hl, hN, hp, R, hR => by
  refine Ev.succ ?_
  simp only [Z78.l9, Z78.l9.b]
  refine below_wp hb hp (by omega) fun r q r1 r2 hq => ?_
  rw [wrap64 (by omega) (by omega)]
  exact Ev.neg (by simp; omega) (hR N q (by omega) hN hq).shift
 | m + 1, N, p, hm, hl, hN, hp, R, hR => by
  have h0 := rd_memL (P := DL) hN (i := 0) (by omega)
  refine Ev.succ ?_
  simp only [Z78.l9, Z78.l9.b]
  refine below_wp hb hp (by omega) fun r q r1 r2 hq => Ev.ite (fun _ => Ev.grd (by simp; omega) ?_) fun _ => (hR N q (by omega) hN hq).shift
  rw [wrap64 (x := (N.length : Int) - 1) (by omega) (by omega)]
  refine Ev.grd (by simp; omega) (Ev.grd (by simp; omega) ?_)
  exact odd9_wp hb m _ q (by simp; omega) (by simp) (mem_appL hN (mem_oneL (DL.of h0.1 h0.2))) hq (fun n => R (n + 1)) fun N' q' h1 h2 h3 => (hR N' q' h1 h2 h3).shift
def DLs (l : List tLiteral) : Prop := l.length <= 62 /\ ∀ x ∈ l, DL x
theorem oddLiterals_wp {bs : List Int} {p most : Int} {d : List tDecl} {R : Nat -> List tLiteral -> List Int -> Int -> Prop} (hb : Bytes bs) (hp : Pos bs p) (hd : DDecls d) (h1 : 1 <= most) (h2 : most <= 60)
  (h : ∀ l q, DLs l -> Pos bs q -> Ev (fun n => R n l bs q)) : Ev (fun n => Z78.c n bs p d most (R n)) := by
 refine Ev.succ ?_
 simp only [Z78.c, Z78.w]
 refine literals_wp hb hp hd h1 h2 fun l q l1 l2 hl hq => below_wp hb hq (by omega) fun i q1 i1 i2 hq1 => below_wp hb hq1 (by omega) fun r q2 _ _ hq2 => ?_
 have hi := rd_memL (P := DL) hl (i := i.toNat) (by omega)
 refine Ev.ite (fun _ => ?_) fun _ => Ev.ite (fun _ => ?_) fun _ => Ev.ite (fun _ => ?_) fun _ => Ev.ite (fun _ => ?_) fun _ => (h l q2 ⟨by omega, hl⟩ hq2).shift
 ·exact off_wp hb hq2 ⟨by omega, by omega⟩ ⟨by omega, by omega⟩ (by omega) fun v q3 _ hq3 => Ev.grd (by simp; omega) (h _ q3 ⟨by simp; omega, mem_setL hl (DL.of hi.1 hi.2)⟩ hq3).shift
 ·exact oddTerm_wp hb hq2 hd fun t q3 ht hq3 => Ev.grd (by simp; omega) (h _ q3 ⟨by simp; omega, mem_setL hl (DL.of ht hi.2)⟩ hq3).shift
 ·exact odd9_wp hb (62 - l.length) l q2 (by omega) l1 hl hq2 (fun n => R (n + 1)) fun N' q3 k1 k2 hq3 => (h N' q3 ⟨k1, k2⟩ hq3).shift
 ·exact Ev.grd (by simp) (h _ q2 ⟨by simp, fun x hx => by simp at hx⟩ hq2).shift
end Go.Vsi
end

section
set_option linter.unusedVariables false
set_option linter.unusedSimpArgs false
namespace Go.Vsi
theorem few_lp_wp {bs : List Int} (hb : Bytes bs) : ∀ (f m : Nat), m <= f -> m <= 8 -> ∀ (x : Int), x = m -> ∀ (acc : List tDecl) (p : Int), acc.length <= 4 -> (1 <= acc.length \/ 1 <= m) -> (∀ x ∈ acc, 1 <= x.2 /\ x.2 <= 200) -> Pos bs p -> ∀ R : Nat -> List tDecl -> List Int -> Int -> Prop,
  (∀ d q, DDecls d -> Pos bs q -> Ev (fun n => R n d bs q)) -> Ev (fun n => Z85.l5 n x acc bs p (R n))
 | f, 0, hf, hm, x, hx, acc, p, hl, ho, ha, hp, R, hR => by
  refine Ev.succ ?_
  simp only [Z85.l5, Z85.l5.b]
  exact Ev.neg (by simp; omega) (hR acc p ⟨by omega, by omega, ha⟩ hp).shift
 | 0, m + 1, hf, hm, x, hx, acc, p, hl, ho, ha, hp, R, hR => by omega
 | f + 1, m + 1, hf, hm, x, hx, acc, p, hl, ho, ha, hp, R, hR => by
  refine Ev.succ ?_
  simp only [Z85.l5, Z85.l5.b, Z85.j1]
  refine Ev.pos (by simp; omega) (Ev.ite (fun h4 => ?_) fun h4 => ?_)
  ·refine below_wp hb hp (by split <;> omega) fun r q r1 r2 hq => ?_
   have hr : r < 4 /\ r < x := by split at r2 <;> omega
   rw [decide_eq_true_eq] at h4
   rw [wrap64 (x := 1 + r) (by omega) (by omega), wrap64 (x := x - (1 + r)) (by omega) (by omega)]
   refine Ev.grd (by simp; omega) ?_
   refine few_lp_wp hb f (m - r.toNat) (by omega) (by omega) _ (by omega) _ q (by simp; omega) (.inl (by simp)) (mem_appL ha (mem_oneL ⟨by show 1 <= 1 + r; omega, by show 1 + r <= 200; omega⟩)) hq (fun n => R (n + 1)) fun d q h1 h2 => (hR d q h1 h2).shift
  ·rw [decide_eq_true_eq] at h4
   exact (hR acc p ⟨by omega, by omega, ha⟩ hp).shift
theorem few_wp {bs : List Int} {p : Int} {R : Nat -> List tDecl -> List tLiteral -> List Int -> Int -> Prop} (hb : Bytes bs) (hp : Pos bs p) (h : ∀ d l q, DDecls d -> DLs l -> Pos bs q -> Ev (fun n => R n d l bs q)) :
  Ev (fun n => Z85.c n bs p (R n)) := by
 have rest : ∀ (d : List tDecl) (q : Int), DDecls d -> Pos bs q -> Ev (fun n => Z85.j2 (R (n + 1)) n d bs q) := fun d q hd hq => by
  simp only [Z85.j2]
  refine oddLiterals_wp hb hq hd (by omega) (by omega) fun l q1 hl hq1 => Ev.ite (fun h5 => ?_) fun _ => (h d l q1 hd hl hq1).shift
  rw [decide_eq_true_eq] at h5
  exact Ev.grd (by simp; omega) (h d (l.take 5) q1 hd ⟨by rw [List.length_take]; omega, fun x hx => hl.2 x (List.mem_of_mem_take hx)⟩ hq1).shift
 have go : ∀ (m : Nat) (q : Int), 1 <= m -> m <= 8 -> Pos bs q -> Ev (fun n => Z85.j3 (R (n + 1)) (Z85.l5 n) n m bs q) := fun m q h1 h8 hq => by
  simp only [Z85.j3]
  refine few_lp_wp hb m m (Nat.le_refl _) h8 _ rfl [] q (by simp) (.inr h1) (fun x hx => by cases hx) hq (fun n y37 y38 y39 => Z81.c n y38 y39 24 (fun r49 r50 r51 => if r49 = true then (grd (decide (0 < (y37.length : Int))) (Z85.j2 (R (n + 1)) n (List.set y37 0 ((rd y37 0).1, 15)) r50 r51)) else (Z85.j2 (R (n + 1)) n y37 r50 r51))) fun d q1 hd hq1 => ?_
  have h1 := hd.1
  refine once_wp hb hq1 (by omega) fun o q2 hq2 => Ev.ite (fun _ => Ev.grd (by simp; omega) (rest _ q2 ⟨by rw [List.length_set]; exact hd.1, by rw [List.length_set]; exact hd.2.1, mem_setL hd.2.2 ⟨by show (1 : Int) <= 15; decide, by show (15 : Int) <= 200; decide⟩⟩ hq2)) fun _ => rest d q2 hd hq2
 refine Ev.succ ?_
 simp only [Z85.c, Z85.w]
 exact once_wp hb hp (by omega) fun o q hq => Ev.ite (fun _ => go 8 q (by omega) (by omega) hq) fun _ => go 7 q (by omega) (by omega) hq
theorem drawCount_wp {bs : List Int} {R : Nat -> List tDecl -> List tLiteral -> Prop} (hb : Bytes bs) (h : ∀ d l, DDecls d -> DLs l -> Ev (fun n => R n d l)) :
  Ev (fun n => Z57.c n bs (R n)) := by
 refine Ev.succ ?_
 simp only [Z57.c, Z57.w]
 exact open_wp (few_wp hb ⟨by omega, by omega⟩ fun d l q hd hl _ => (h d l hd hl).shift)
end Go.Vsi
end

section
set_option linter.unusedVariables false
set_option linter.unusedSimpArgs false
set_option synthInstance.maxSize 4096
namespace Go.Vsi
theorem bytes_gN {code : List Int} (hc : Gd (.sl 0 (.int .u8)) code) (h : ¬ (code.length : Int) > 1048576) : Bytes code := by
 refine ⟨fun x hx => ?_, by omega⟩
 have := hc.2 x hx
 have h1 : (0 : Int) <= x := this.1
 have h2 : x <= (255 : Int) := this.2
 omega
theorem copied_ev {w : Int} {ws : List Int} (h : ws.length <= 1099511627776) (R : Nat -> Int -> List Int -> Prop) : Ev (fun n => Z43.c n w ws (R n)) ↔ Ev (fun n => R n w ws) := by
 refine Ev.suc.trans ?_
 simp only [Z43.c, Z43.w, and_self, List.nil_append, List.length_nil, Nat.zero_add]
 simp only [grd_dec (show ws.length <= 7818749353073 from by omega)]
 exact Ev.s2 R _ _
theorem fails_zeroN {v : List tBits} : ∀ {l : List tLiteral}, (∀ y ∈ l, holdsB v y = true) -> failsGo v l = 0
 | [], _ => rfl
 | y :: l, h => by rw [failsGo, if_pos (h y List.mem_cons_self), fails_zeroN fun z hz => h z (List.mem_cons_of_mem _ hz)]
theorem RB.ok {b : tBits} (h : RB b) : bitsOk b.1 b.2 = true /\ Wd b.2 := by
 obtain ⟨u, ws, e, ho, _, _⟩ := h.of
 rw [e]; exact ⟨ho.bits, wd_W ho.words⟩
theorem valsGo_of {d : List tDecl} {v : List tBits} (h : ValR d v) : ∀ (m x : Nat), x + m = v.length -> valsGo d (v.drop x) (x : Int) = true
 | 0, x, e => by rw [List.drop_eq_nil_of_le (by omega)]; rfl
 | m + 1, x, e => by
  obtain ⟨h1, h2⟩ := h.2 x (by omega)
  have ed : v.drop x = rd v x :: v.drop (x + 1) := by
   rw [List.drop_eq_getElem_cons (show x < v.length by omega), rd, List.getD_eq_getElem?_getD, List.getElem?_eq_getElem (show x < v.length by omega)]; rfl
  rw [ed, valsGo, h1.ok.1, Int.toNat_natCast, decide_eq_true h2, show ((x : Int) + 1) = ((x + 1 : Nat) : Int) from rfl, valsGo_of h m (x + 1) (by omega)]; rfl
theorem ValR.oks {d : List tDecl} {v : List tBits} (hd : declsOk d = true) (h : ValR d v) : valsOk d v = true /\ ∀ b ∈ v, Wd b.2 := by
 have := valsGo_of h v.length 0 (by omega)
 rw [List.drop_zero] at this
 refine ⟨by rw [valsOk, valsI, hd, decide_eq_true h.1]; simpa using this, fun b hb => ?_⟩
 obtain ⟨i, hi, rfl⟩ := List.getElem_of_mem hb
 have := (h.2 i hi).1.ok.2
 rwa [rd, List.getD_eq_getElem?_getD, List.getElem?_eq_getElem hi] at this
structure Cnt (d : List tDecl) (l : List tLiteral) (t : Nat) : Prop where
 dl : 1 <= d.length
 d1 : d.length <= 1099511627776
 dok : declsOk d = true
 lok : litsOk d l = true
 lI : litsI d l = true
 w : ∀ y ∈ l, LitW y
 nar : Nar d
 tot : totW d = (t : Int)
 t14 : t <= 14
theorem Cnt.suf {d : List tDecl} {l : List tLiteral} {t : Nat} (h : Cnt d l t) : sufN d 0 = t := by
 have := h.tot
 unfold sufN
 rw [List.drop_zero]; omega
theorem Cnt.t1 {d : List tDecl} {l : List tLiteral} {t : Nat} (h : Cnt d l t) : 1 <= t := by
 have h1 := h.suf
 have h2 := suf_step h.nar (show 0 < d.length from h.dl)
 have h3 := (h.nar.2 0 h.dl).1
 omega
def nX (d : List tDecl) (l : List tLiteral) (t : Nat) (k : Nat) : Nat := (nthF d l (2 ^ t) 0 k).toNat
theorem Cnt.nth {d : List tDecl} {l : List tLiteral} {t : Nat} (h : Cnt d l t) {k : Nat} (hk : (k : Int) < cntF d l (2 ^ t) 0) :
  nthOf d l k = (numOf d (nX d l t k), true) /\ nX d l t k < 2 ^ t /\ allB d l (nX d l t k) = true := by
 obtain ⟨h1, h2⟩ := nth_in (d := d) (l := l) (2 ^ t) 0 k (by omega) hk
 have h3 := (nthF_lt (d := d) (l := l) (2 ^ t) 0 k).2
 have ht := h.tot
 have h14 := h.t14
 refine ⟨?_, by unfold nX; omega, h2⟩
 rw [nthOf, if_pos ⟨⟨h.lok, by omega⟩, by omega⟩, ht, Int.toNat_natCast, if_neg (by omega)]; rfl
theorem join_lp {d : List tDecl} {l : List tLiteral} {t x : Nat} (h : Cnt d l t) (hx : x < 2 ^ t) {x39 x40 : Int} {x42 : List tDecl} {x43 : List tLiteral} {x45 : List Int} {x47 : Int} : ∀ (m j : Nat), j + m = d.length -> 1 <= j -> ∀ Kx : Nat -> Int -> Int -> List tDecl -> List tLiteral -> List Int -> List Int -> Int -> Int -> Prop,
  Ev (fun n => Kx n x39 x40 x42 x43 x45 (W (wkN t x)) x47 t) -> Ev (fun n => laws_FnNumbered.l16 n x39 x40 x42 x43 (numOf d x) x45 x47 j (W (wkN (t - sufN d j) (x / 2 ^ sufN d j))) ((t - sufN d j : Nat) : Int) (Kx n))
 | 0, j, hj, h1, Kx, hK => by
  have hl := (numOf_ok h.nar x).1
  obtain rfl : j = d.length := by omega
  rw [suf_end, Nat.sub_zero, Nat.pow_zero, Nat.div_one]
  refine Ev.succ ?_
  simp only [laws_FnNumbered.l16, laws_FnNumbered.l16.b]
  exact Ev.neg (by simp; omega) hK.shift
 | m + 1, j, hj, h1, Kx, hK => by
  have hl := (numOf_ok h.nar x).1
  have hjd : j < d.length := by omega
  have hd1 := h.d1
  have hs := suf_step h.nar hjd
  have hle := suf_le h.nar j (by omega)
  have hs0 := h.suf
  have h14 := h.t14
  have hsp := suf_step h.nar (show j - 1 < d.length by omega)
  have hlp := suf_le h.nar (j - 1) (by omega)
  rw [show j - 1 + 1 = j from by omega] at hsp
  obtain ⟨n1, n2⟩ := h.nar.2 j hjd
  obtain ⟨n3, n4⟩ := h.nar.2 (j - 1) (by omega)
  obtain ⟨w, ew⟩ : ∃ w : Nat, (rd d j).2 = (w : Int) := ⟨(rd d j).2.toNat, by omega⟩
  have hpl := part_lt d x j
  have hpj := part_join h.nar x hjd
  have hh := head_lt h.nar (Nat.le_of_lt hjd) (by rw [hs0]; exact hx)
  rw [hs0] at hh
  rw [ew, Int.toNat_natCast] at hs hpl hpj
  have e := numOf_at h.nar x hjd
  rw [ew, wk_N] at e
  rw [ew] at n1
  have ih := join_lp h hx (x39 := x39) (x40 := x40) (x42 := x42) (x43 := x43) (x45 := x45) (x47 := x47) m (j + 1) (by omega) (by omega) (fun n => Kx (n + 1)) hK.shift
  refine Ev.succ ?_
  simp only [laws_FnNumbered.l16, laws_FnNumbered.l16.b, Int.toNat_natCast, e]
  refine Ev.pos (by simp; omega) (Ev.grd (by simp; omega) ?_)
  rw [joinS_ev (wk_ok (by omega) (by omega) hh) (wk_ok (by omega) (by omega) hpl) (by omega), over_wk (by omega) (by omega) (by omega) hh hpl, hpj, wrap64 (x := (j : Int) + 1) (by omega) (by omega)]
  rw [show t - sufN d j + w = t - sufN d (j + 1) from by omega]
  exact ih
theorem numbered_lp {d : List tDecl} {l : List tLiteral} {t : Nat} (h : Cnt d l t) : ∀ (m k : Nat), k + m = 40 -> ∀ (lw : List Int) (lv : Int), (1 <= k -> lw = W (wkN t (nX d l t (k - 1))) /\ lv = t /\ ((k - 1 : Nat) : Int) < cntF d l (2 ^ t) 0) -> ∀ (Kx : Nat -> Int -> List tDecl -> List tLiteral -> Prop) (Kr : Nat -> Bool -> Prop),
  Ev (fun n => Kx n (cntF d l (2 ^ t) 0) d l) -> Ev (fun n => laws_FnNumbered.l9 n (cntF d l (2 ^ t) 0) k d l lw lv (Kx n) (Kr n))
 | 0, k, hk, lw, lv, hl, Kx, Kr, hK => by
  refine Ev.succ ?_
  simp only [laws_FnNumbered.l9, laws_FnNumbered.l9.b]
  exact Ev.ite (fun _ => Ev.neg (by simp; omega) hK.shift) fun _ => hK.shift
 | m + 1, k, hk, lw, lv, hl, Kx, Kr, hK => by
  refine Ev.succ ?_
  simp only [laws_FnNumbered.l9, laws_FnNumbered.l9.b, laws_FnNumbered.j5, laws_FnNumbered.j4]
  refine Ev.ite (fun hc => Ev.pos (by simp; omega) ?_) fun _ => hK.shift
  rw [decide_eq_true_eq] at hc
  obtain ⟨e1, e2, e3⟩ := h.nth hc
  have hv := numOf_ok h.nar (nX d l t k)
  obtain ⟨o1, o2⟩ := hv.oks h.dok
  have h0 := h.dl
  have h14 := h.t14
  have ht1 := h.t1
  have hs0 := h.suf
  have hs : sufN d 0 = (rd d 0).2.toNat + sufN d 1 := suf_step h.nar (show 0 < d.length from h0)
  obtain ⟨n1, n2⟩ := h.nar.2 0 h0
  rw [nthI_ev h.d1 h.w (by omega), e1]
  refine Ev.pos rfl ?_
  rw [failsOf_ev h.d1 o2 h.w, failsOf, if_pos ⟨o1, h.lI⟩, fails_zeroN (List.all_eq_true.1 e3)]
  refine Ev.neg (by decide) (Ev.grd (by have := hv.1; simp; omega) ?_)
  obtain ⟨w, ew⟩ : ∃ w : Nat, (rd d 0).2 = (w : Int) := ⟨(rd d 0).2.toNat, by omega⟩
  have e := numOf_at h.nar (nX d l t k) (show 0 < d.length from h0)
  rw [ew, wk_N] at e
  rw [ew, Int.toNat_natCast] at hs
  have hp : partN d (nX d l t k) 0 = nX d l t k / 2 ^ sufN d 1 := by
   have := part_join h.nar (nX d l t k) (show 0 < d.length from h0)
   rw [hs0, Nat.div_eq_of_lt e2, Nat.mul_zero, Nat.zero_add] at this
   exact this
  have hwl : (W (wkN w (partN d (nX d l t k) 0))).length <= 1099511627776 := by rw [W_len, wkN_len]; omega
  rw [e, copied_ev hwl, hp, show w = t - sufN d 1 from by omega]
  refine join_lp h e2 (d.length - 1) 1 (by omega) (Nat.le_refl _) _ ?_
  have again := fun h1 h2 => numbered_lp h m (k + 1) (by omega) (W (wkN t (nX d l t k))) (t : Int) (fun _ => ⟨h1, h2, hc⟩) (fun n => Kx (n + 1)) (fun n => Kr (n + 1)) hK.shift
  rw [wrap64 (x := (k : Int) + 1) (by omega) (by omega)]
  refine Ev.ite (fun hk0 => ?_) fun _ => again rfl rfl
  rw [decide_eq_true_eq] at hk0
  obtain ⟨q1, q2, q3⟩ := hl (by omega)
  have hr := nth_rises (d := d) (l := l) (2 ^ t) 0 ((k - 1 : Nat) : Int) (by omega) (by omega)
  have hi := (nth_in (d := d) (l := l) (2 ^ t) 0 ((k - 1 : Nat) : Int) (by omega) q3).1
  rw [show ((k - 1 : Nat) : Int) + 1 = (k : Int) from by omega] at hr
  have hlt : nX d l t (k - 1) < nX d l t k := by unfold nX; omega
  subst q1; subst q2
  refine cmp_wp ht1 (by omega) (h.nth q3).2.1 e2 hlt _ ?_
  exact Ev.neg (by decide) (again rfl rfl)
theorem numbered_law {code : List Int} (hc : Gd (.sl 0 (.int .u8)) code) (K : Bool -> Prop) : True /\ (K true -> Ev (fun n => laws_FnNumbered.c n code K)) := by
 refine ⟨trivial, fun hK => ?_⟩
 refine Ev.succ ?_
 simp only [laws_FnNumbered.c, laws_FnNumbered.w]
 refine big_wp (Ev.ite (fun _ => Ev.const hK) fun hb => ?_)
 have hB := bytes_gN hc (by simpa using hb)
 refine drawCount_wp hB fun d l hd hl => ?_
 have hd1 := hd.1
 have hd2 := hd.2.1
 have hg : LitG l := fun y hy => ⟨(hl.2 y hy).1.wd, (hl.2 y hy).2.wd⟩
 rw [countI_ev (by omega) hg.w]
 refine countS_wp (by omega) hg _ ?_
 refine Ev.neg (by simp) ?_
 by_cases h : litsOk d l = true /\ totW d <= 14
 ·have hdo : declsOk d = true := by have := h.1; rw [litsOk, Bool.and_eq_true] at this; exact this.1
  have hli : litsI d l = true := by have := h.1; rw [litsOk, Bool.and_eq_true] at this; exact this.2
  obtain ⟨hn, h0⟩ := nar_of hdo h.2
  obtain ⟨t, et⟩ : ∃ t : Nat, totW d = (t : Int) := ⟨(totW d).toNat, by omega⟩
  have h2 := h.2
  have hC : Cnt d l t := ⟨hd1, by omega, hdo, h.1, hli, hg.w, hn, et, by omega⟩
  have hcn := cnt_nn (d := d) (l := l) (2 ^ t) 0
  rw [countP, if_pos h, et, Int.toNat_natCast]
  refine numbered_lp hC 40 0 (by omega) [] 0 (fun h => by omega) (fun n y201 y202 y203 => Z18.c n y202 y203 (if 0 > y201 then 0 else y201) (fun r204 r205 => K (!r205))) (fun n => K) ?_
  rw [if_neg (by omega), nthI_ev (by omega) hg.w (by
   have : ∀ m x, cntF d l m x <= m := by
    intro m
    induction m with
    | zero => intro x; rw [cntF]; omega
    | succ m ih => intro x; have := ih (x + 1); rw [cntF]; split <;> omega
   have h3 := this (2 ^ t) 0
   have h4 := pow14 hC.t14
   omega)]
  rw [nthOf, if_pos ⟨h, hcn⟩, et, Int.toNat_natCast, nth_out _ _ _ (Int.le_refl _)]
  exact Ev.const hK
 ·rw [countP, if_neg h]
  refine Ev.succ ?_
  simp only [laws_FnNumbered.l9, laws_FnNumbered.l9.b]
  refine Ev.neg (by decide) ?_
  refine (?_ : Ev (fun n => Z18.c n d l 0 (fun r204 r205 => K (!r205)))).shift
  rw [nthI_ev (by omega) hg.w (by omega), nthOf, if_neg (fun h' => h h'.1)]
  exact Ev.const hK
end Go.Vsi
end
