/- A machine on plain data for the code of the program, and what it means in memory. No statement is proved here. -/
import Derived.Test.YtfmjhfijkdlidaaM2
import Derived.SizedLaws
import Derived.ProofKit
set_option linter.unusedVariables false
set_option linter.unusedSimpArgs false

section
namespace Go.Vsi
section
variable {φ : Fix} {ρ : Env} {st : St} {a : Act} {w : World}
theorem Rep.shrink (h : Rep φ ρ st a w) {st' : St} (hs : ∀ s v, qO s st'.slots = some v -> qO s st.slots = some v)
  (hr : ∀ d r, qO d st'.rows = some r -> qO d st.rows = some r) (hb : ∀ b x, qO b st'.boxes = some x -> qO b st.boxes = some x)
  (hus : ∀ s v c d r, qO s st'.slots = some v -> c ∈ v.all -> c.says (CV.speaks d) = true -> qO d st.rows = some r -> qO d st'.rows = some r)
  (hub : ∀ b x c d r, qO b st'.boxes = some x -> c ∈ x.cs -> c.says (CV.speaks d) = true -> qO d st.rows = some r -> qO d st'.rows = some r)
  (hl : ∀ d, d ∈ st'.lentR -> d ∈ st.lentR) (hl' : ∀ d, d ∈ st'.lentB -> d ∈ st.lentB) : Rep φ { ρ with on := fun d => ρ.on d /\ ∃ r, qO d st'.rows = some r } st' a w := by
 have m : ∀ c : CV, (∀ d r, c.says (CV.speaks d) = true -> qO d st.rows = some r -> qO d st'.rows = some r) -> jS ρ { ρ with on := fun d => ρ.on d /\ ∃ r, qO d st'.rows = some r } w w c := fun c hc =>
  ⟨fun _ h => h, qG.refl _ _, fun _ _ => ⟨rfl, rfl⟩, fun d hd ho => by
   obtain ⟨r, hr'⟩ := h.on d ho
   exact ⟨⟨ho, r, hc d r (wY hd) hr'⟩, fun _ _ _ _ _ => qG.refl _ _⟩, fun _ _ => rfl⟩
 exact {
  size := h.size, nodef := h.nodef, on := fun d hd => hd.2
  slots := fun s v hv => ⟨(h.slots s v (hs s v hv)).1, kI (fun c hc => m c fun d r hd hr' => hus s v c d r hv hc hd hr') (h.slots s v (hs s v hv)).2⟩
  rows := fun d r hd => h.rows d r (hr d r hd)
  boxes := fun b x hx => by
   obtain ⟨arr, fr, h1, h2, h3⟩ := h.boxes b x (hb b x hx)
   exact ⟨arr, fr, h1, h2, h3.impMem fun c v hc hv => jU (m c fun d r hd hr' => hub b x c d r hx hc hd hr') hv⟩
  rsep := fun d d' r r' h1 h2 => h.rsep d d' r r' (hr _ _ h1) (hr _ _ h2)
  rF := fun d r h1 => h.rF d r (hr _ _ h1)
  rb := fun d r b x h1 h2 => h.rb d r b x (hr _ _ h1) (hb _ _ h2)
  bsep := fun b b' x x' h1 h2 => h.bsep b b' x x' (hb _ _ h1) (hb _ _ h2)
  bF := fun b x h1 => h.bF b x (hb _ _ h1)
  Fbd := h.Fbd, F0 := h.F0, grow := h.grow, io := h.io, tab := h.tab, keep := h.keep
  lentR := fun d hd => h.lentR d (hl d hd), lentB := fun d hd => h.lentB d (hl' d hd) }
theorem yC {α : Type} {k : Nat} {x : α} : ∀ {l : List (Nat × α)}, qO k l = some x -> (k, x) ∈ l
 | [], h => by simp [qO] at h
 | (i, b) :: l, h => by
  simp only [qO] at h
  split at h
  ·rename_i hi; subst hi; simp only [Option.some.injEq] at h; subst h; exact List.mem_cons_self
  ·exact List.mem_cons_of_mem _ (yC h)
theorem qNb {v : SV} {c : CV} {p : CV -> Bool} (hc : c ∈ v.all) (hp : c.says p = true) : v.anyC p = true := by
 cases v with
 | undef => cases hc
 | clo _ _ _ => cases hc
 | c x => simp only [SV.all, List.mem_singleton] at hc; subst hc; exact hp
 | agg xs => simp only [SV.anyC, List.any_eq_true]; exact ⟨c, hc, hp⟩
 | tup vs =>
  simp only [SV.all, List.mem_flatMap] at hc
  obtain ⟨u, hu, hc⟩ := hc
  simp only [SV.anyC, List.any_eq_true]
  refine ⟨u, hu, ?_⟩
  cases u with
  | c x => simp only [List.mem_singleton] at hc; subst hc; exact hp
  | agg ys => simp only [List.any_eq_true]; exact ⟨c, hc, hp⟩
  | undef => cases hc
  | clo _ _ _ => cases hc
  | tup _ => cases hc
theorem Rep.keepSlots (h : Rep φ ρ st a w) (ks : List Nat) : Rep φ ρ { st with slots := keepSlots ks st.slots } a w :=
 h.less h.on (fun s v hv => by
  unfold Go.Vsi.keepSlots at hv
  have := kT (fun i => ks.contains i) s st.slots
  simp only at hv
  rw [this] at hv
  split at hv
  ·exact hv
  ·cases hv) (fun _ _ h => h) (fun _ _ h => h) (fun _ h => h) (fun _ h => h)
theorem Rep.usedBoxes (h : Rep φ ρ st a w) : Rep φ ρ { st with boxes := usedBoxes st } a w :=
 h.less h.on (fun _ _ h => h) (fun _ _ h => h) (fun b x hx => by
  unfold Go.Vsi.usedBoxes at hx
  have := kT (fun b => st.lentB.contains b || st.slots.any (fun x => x.2.anyC (CV.pts b)) || st.boxes.any fun b' => b'.2.cs.any (CV.says (CV.pts b))) b st.boxes
  simp only at hx
  rw [this] at hx
  split at hx
  ·exact hx
  ·cases hx) (fun _ h => h) (fun _ h => h)
theorem Rep.usedRows (h : Rep φ ρ st a w) : ∃ ρ', Rep φ ρ' { st with rows := usedRows st } a w := by
 have hlk : ∀ d, qO d (Go.Vsi.usedRows st) = if (st.lentR.contains d || st.slots.any (fun x => x.2.anyC (CV.speaks d)) || st.boxes.any fun b => b.2.cs.any (CV.says (CV.speaks d))) = true then qO d st.rows else none := fun d =>
  kT (fun d => st.lentR.contains d || st.slots.any (fun x => x.2.anyC (CV.speaks d)) || st.boxes.any fun b => b.2.cs.any (CV.says (CV.speaks d))) d st.rows
 refine ⟨_, h.shrink (st' := { st with rows := Go.Vsi.usedRows st }) (fun _ _ h => h) (fun d r hd => ?_) (fun _ _ h => h) (fun s v c d r hv hc hd hr => ?_) (fun b x c d r hx hc hd hr => ?_) (fun _ h => h) (fun _ h => h)⟩
 ·simp only [hlk] at hd
  split at hd
  ·exact hd
  ·cases hd
 ·simp only [hlk]
  rw [if_pos]
  ·exact hr
  ·simp only [Bool.or_eq_true, List.any_eq_true]
   exact .inl (.inr ⟨(s, v), yC hv, qNb hc hd⟩)
 ·simp only [hlk]
  rw [if_pos]
  ·exact hr
  ·simp only [Bool.or_eq_true, List.any_eq_true]
   exact .inr ⟨(b, x), yC hx, c, hc, hd⟩
def Jth (z : Value) (j : Nat) : SV -> Value -> Prop
 | .c _, x => x = z
 | .agg _, x => ∃ arr, z = .agg arr /\ arr.toList[j]? = some x
 | _, _ => False
theorem qBg {z : Value} {j : Nat} {v : SV} {x : Value} {p : CV -> Bool} : Jth z j (v.kill p) x ↔ Jth z j v x := by
 cases v <;> exact Iff.rfl
theorem qC9 {v : SV} {z : Value} {j : Nat} {c : CV} (h : SVR ρ w v z) (hc : v.cellAt j = some c) : ∃ x, Jth z j v x /\ CVR ρ w c x := by
 cases v with
 | c y => simp only [SV.cellAt, Option.some.injEq] at hc; subst hc; exact ⟨z, rfl, h⟩
 | agg xs =>
  obtain ⟨arr, rfl, ha⟩ := h
  obtain ⟨x, h1, h2⟩ := ha.get hc
  exact ⟨x, ⟨arr, rfl, h1⟩, h2⟩
 | _ => simp [SV.cellAt] at hc
theorem jN.set' {α β : Type} {R : α -> β -> Prop} : ∀ {l : List α} {r : List β} (i : Nat) {a : α}, jN R l r -> (∀ b, r[i]? = some b -> R a b) -> jN R (l.set i a) r
 | [], [], _, _, _, _ => trivial
 | _ :: _, _ :: _, 0, _, p, h => ⟨h _ rfl, p.2⟩
 | _ :: _, _ :: _, i + 1, _, p, h => ⟨p.1, jN.set' i p.2 fun b hb => h b hb⟩
theorem qIU {v : SV} {z : Value} {j : Nat} {c : CV} (h : SVR ρ w v z) (hc : ∀ x, Jth z j v x -> CVR ρ w c x) : SVR ρ w (v.cellSet j c) z := by
 cases v with
 | c y => exact hc z rfl
 | agg xs =>
  obtain ⟨arr, rfl, ha⟩ := h
  exact ⟨arr, rfl, ha.set' j fun b hb => hc b ⟨arr, rfl, hb⟩⟩
 | undef => exact h
 | clo _ _ _ => exact h
 | tup _ => exact h
theorem qBE {z : Value} {j : Nat} {v : SV} {x y : Value} (h : Jth z j v x) (h' : Jth z j v y) : x = y := by
 cases v with
 | c _ => exact h.trans h'.symm
 | agg _ =>
  obtain ⟨arr, rfl, h1⟩ := h
  obtain ⟨arr', e, h2⟩ := h'
  simp only [Value.agg.injEq] at e
  subst e
  rw [h1] at h2; simpa using h2
 | _ => exact h.elim
theorem Rep.cellTo (h : Rep φ ρ st a w) {s j : Nat} {c : CV} {st' : St} (he : st.cellTo s j c = some st') (hc : ∀ v x, qO s st.slots = some v -> Jth (a.tmps.getD s undef) j v x -> CVR ρ w c x) : Rep φ ρ st' a w := by
 unfold St.cellTo at he
 split at he
 ·rename_i v hv
  simp only [Option.some.injEq] at he; subst he
  obtain ⟨h1, h2⟩ := h.slots s v hv
  exact h.reset h1 (qIU h2 fun x hx => hc v x hv hx)
 ·cases he
theorem Rep.resetBox (h : Rep φ ρ st a w) {b : Nat} {x : Box} (hb0 : st.box? b = some x) {cs : List CV} (hc : ∀ arr fr, w.heap[ρ.blk b]? = some (.cells arr x.e fr) -> jN (CVR ρ w) x.cs arr.toList -> jN (CVR ρ w) cs arr.toList) :
  Rep φ ρ { st with boxes := put b { x with cs := cs } st.boxes } a w := by
 have hb := (wV hb0).1
 have hlk : ∀ {b' y}, qO b' (put b { x with cs := cs } st.boxes) = some y -> (b' = b /\ y = { x with cs := cs }) \/ (b' ≠ b /\ qO b' st.boxes = some y) := fun {b' y} hy => by
  rw [qP] at hy
  by_cases hh : b' = b
  ·rw [if_pos hh] at hy; simp only [Option.some.injEq] at hy; exact .inl ⟨hh, hy.symm⟩
  ·rw [if_neg hh] at hy; exact .inr ⟨hh, hy⟩
 have old : ∀ {b' y}, qO b' (put b { x with cs := cs } st.boxes) = some y -> ∃ y', qO b' st.boxes = some y' /\ y'.ro = y.ro := fun hy => by
  rcases hlk hy with ⟨rfl, rfl⟩ | ⟨_, hy⟩
  ·exact ⟨x, hb, rfl⟩
  ·exact ⟨_, hy, rfl⟩
 exact { h with
  boxes := fun b' y hy => by
   rcases hlk hy with ⟨rfl, rfl⟩ | ⟨_, hy⟩
   ·obtain ⟨arr, fr, h1, h2, h3⟩ := h.boxes b' x hb
    exact ⟨arr, fr, h1, h2, hc arr fr (h1.cells (wV hb0).2) h3⟩
   ·exact h.boxes b' y hy
  rb := fun d r b' y hd hy => by obtain ⟨y', hy', _⟩ := old hy; exact h.rb d r b' y' hd hy'
  bsep := fun b1 b2 x1 x2 h1 h2 hn => by obtain ⟨y1, e1, _⟩ := old h1; obtain ⟨y2, e2, _⟩ := old h2; exact h.bsep b1 b2 y1 y2 e1 e2 hn
  bF := fun b' y hy => by obtain ⟨y', hy', e⟩ := old hy; rw [<- e]; exact h.bF b' y' hy' }
theorem Rep.boxTo (h : Rep φ ρ st a w) {b j : Nat} {c : CV} {st' : St} (he : st.boxTo b j c = some st') (hc : ∀ x arr fr y, st.box? b = some x -> w.heap[ρ.blk b]? = some (.cells arr x.e fr) -> arr.toList[j]? = some y -> CVR ρ w c y) : Rep φ ρ st' a w := by
 unfold St.boxTo at he
 split at he
 ·rename_i x hx
  simp only [Option.some.injEq] at he; subst he
  exact h.resetBox hx fun arr fr h1 h2 => h2.set' j fun y hy => hc x arr fr y hx h1 hy
 ·cases he
theorem Rep.rename (h : Rep φ ρ st a w) {d d' m : Nat} {st' : St} (he : rename st d d' m = some st') : ∃ ρ', Rep φ ρ' st' a w /\ ρ'.val d' = ρ.val d /\ ρ'.blk = ρ.blk /\ (∀ y, ρ.F y -> ρ'.F y) := by
 unfold Go.Vsi.rename at he
 split at he
 ·rename_i r hr
  have hd := qI hr
  split at he
  ·rename_i hdd
   subst hdd
   simp only [Option.some.injEq] at he; subst he
   obtain ⟨ρ', l, _, _, _, _, h'⟩ := h.lowRow hd (qJ hr) (k := Nat.min r.m m) (Nat.min_le_left _ _)
   exact ⟨ρ', h', by rw [l.val], l.blk, l.F⟩
  ·rename_i hdd
   split at he
   ·cases he
   ·simp only [Option.some.injEq] at he; subst he
    obtain ⟨p1, p2, p3, p4⟩ := h.rows d r hd
    obtain ⟨B', g1, _, _, g4⟩ := qBd (Nat.min_le_left r.m m) (kX.whole (qJ hr) p3)
    have h1 := h.dropRow d
    have ap := h.take hd
    have h2 := h1.addF (G := fun y => ρ.ft d y /\ ¬ B' y) (ap.sub fun y hy => hy.1)
    have ap2 := (ap.sub (B' := B') fun y hy => g1 y hy).addF (G := fun y => ρ.ft d y /\ ¬ B' y) fun y hy hg => hg.2 hy
    have h3 := h2.addRow (zB.refl w) (d := d') (r := { r with m := Nat.min r.m m }) (v := ρ.val d) (B := B') (show r.hole = none from qJ hr) g4 p4 ap2.here (fun e r' _ he y hy => ap2.row e r' he y hy) (fun b x hx => ap2.box b x hx)
    exact ⟨_, h3, by simp [Env.setRow], rfl, fun y hy => .inl hy⟩
 ·cases he
theorem qIp {F : Nat -> Prop} {e : TypeId} {t : Ty} {m n c hi k : Nat} {l : List t.T} {B : Nat -> Prop} {a1 a2 : Option Addr} {v : Value} (hm : 1 <= m) (h : qN F w (.sl e t) m l B [.slice a1 n c]) (h3 : hi <= n) (h4 : n <= c) (hv : v = .slice a2 (hi - 0) (c - 0)) (ha : 0 < c -> a2 = a1.map (·.add (0 * k))) :
  qN F w (.sl e t) m (l.take hi) B [v] /\ (l ≠ [] -> ∃ b n c, qAu v b n c) := by
 match m, hm with
 | m + 1, _ =>
  rw [qN] at h ⊢
  obtain ⟨v', q1, a3, c3, q2, q3⟩ := h
  simp only [List.cons.injEq, and_true] at q1
  rw [<- q1] at q2
  simp only [Value.slice.injEq] at q2
  obtain ⟨rfl, rfl, rfl⟩ := q2
  have hl : (l.take hi).length = hi := by rw [List.length_take]; omega
  rcases q3 with ⟨rfl, rfl⟩ | ⟨b, arr, fr, rfl, g2, g3, g4, g5, g6, Bs, g7, g8, g9⟩
  ·refine ⟨⟨v, rfl, a2, 0, ?_, .inl ⟨by simp, rfl⟩⟩, fun h => absurd rfl h⟩
   rw [hv, hl]; rfl
  ·by_cases hc : 0 < c
   ·have ha' : a2 = some ⟨b, 0, none⟩ := by rw [ha hc, Nat.zero_mul]; rfl
    refine ⟨⟨v, rfl, some ⟨b, 0, none⟩, c, by rw [hv, hl, ha']; rfl, .inr ⟨b, arr, fr, rfl, g2, g3, g4, by omega, g6, Bs, fun i x hi' => g7 i x (by omega), fun i j x h1 h2 => g8 i j x (by omega) (by omega), fun i h => ?_⟩⟩, fun _ => ⟨b, hi, c, by rw [hv, ha']; rfl⟩⟩
    obtain ⟨vs, k1, k2⟩ := g9 i (by omega)
    exact ⟨vs, k1, by rw [List.getElem_take]; exact k2⟩
   ·have hl0 : l = [] := List.eq_nil_of_length_eq_zero (by omega)
    subst hl0
    refine ⟨⟨v, rfl, a2, 0, ?_, .inl ⟨by simp, rfl⟩⟩, fun h => absurd rfl h⟩
    rw [hv, hl, show c = 0 by omega]; rfl
theorem Rep.narrowTo (h : Rep φ ρ st a w) {d hi d' m : Nat} {st' : St} (he : Go.Vsi.narrow st d hi d' m = some st') {v : Value} (hv : CVR ρ w (.vw d 0 hi) v) : ∃ ρ', Rep φ ρ' st' a w /\ ρ'.val d' = v /\ ρ'.blk = ρ.blk /\ v.oneCell' = true := by
 unfold Go.Vsi.narrow at he
 split at he
 ·rename_i r hr
  have hd := qI hr
  split at he
  ·cases he
  ·rename_i hn
   simp only [Option.some.injEq] at he; subst he
   obtain ⟨p1, p2, p3, p4⟩ := h.rows d r hd
   have q1 : r.hole = none := qJ hr
   obtain ⟨a1, n, c1, a2, e1, _, h3, h4, e2, e3⟩ := (hv : zP ρ w (.vw d 0 hi) v)
   obtain ⟨B', g1, _, _, g4⟩ := qBd (Nat.min_le_left r.m m) (kX.whole q1 p3)
   have hm : 1 <= Nat.min r.m m := Nat.le_min.2 ⟨by omega, by omega⟩
   obtain ⟨g5, g6⟩ := qIp hm (by rw [<- e1]; exact g4) h3 h4 e2 e3
   have h1 := h.dropRow d
   have ap := h.take hd
   have h2 := h1.addF (G := fun y => ρ.ft d y /\ ¬ B' y) (ap.sub fun y hy => hy.1)
   have ap2 := (ap.sub (B' := B') fun y hy => g1 y hy).addF (G := fun y => ρ.ft d y /\ ¬ B' y) fun y hy hg => hg.2 hy
   have h3 := h2.addRow (zB.refl w) (d := d') (r := { r with l := r.l.take hi, m := Nat.min r.m m }) (v := v) (B := B') (show r.hole = none from q1) g5 (fun hne => g6 fun hr0 => hne (by show r.l.take hi = []; rw [hr0]; exact List.take_nil)) ap2.here (fun e r' _ he y hy => ap2.row e r' he y hy) (fun b x hx => ap2.box b x hx)
   exact ⟨_, h3, by simp [Env.setRow], rfl, by rw [e2]; rfl⟩
 ·cases he
theorem qNL (h : Rep φ ρ st a w) {s j : Nat} {c : Co} {st' : St} (he : co1 st s j c = some st') : ∃ ρ', Rep φ ρ' st' a w := by
 unfold co1 at he
 split at he
 ·cases he
 ·rename_i v hv
  have hsv := (h.slots s v hv).2
  split at he
  ·rename_i d m hc
   split at he
   ·rename_i st1 h1
    obtain ⟨ρ', h2, hval, _⟩ := h.rename h1
    obtain ⟨x, hx, hxv⟩ := qC9 hsv hc
    refine ⟨ρ', h2.cellTo he fun v' y hv' hy => ?_⟩
    have hj : Jth (a.tmps.getD s undef) j v y := by
     unfold rename at h1
     split at h1
     ·split at h1
      ·simp only [Option.some.injEq] at h1; subst h1
       have : v' = v := by have := hv'.symm.trans hv; simpa using this
       rw [<- this]; exact hy
      ·split at h1
       ·cases h1
       ·simp only [Option.some.injEq] at h1; subst h1
        obtain ⟨u1, hu1, rfl⟩ := zU (st := st.dropRow d) hv'
        obtain ⟨u2, hu2, rfl⟩ := zU (st := st) hu1
        have : u2 = v := by have := hu2.symm.trans hv; simpa using this
        rw [<- this]; exact qBg.1 (qBg.1 hy)
     ·cases h1
    rw [qBE hj hx]
    exact ⟨by rw [hxv.1, hval], hxv.2⟩
   ·cases he
  ·rename_i d lo hi m hc
   split at he
   ·rename_i hlo
    subst hlo
    split at he
    ·rename_i st1 h1
     obtain ⟨x, hx, hxv⟩ := qC9 hsv hc
     obtain ⟨ρ', h2, hval, _, hone⟩ := h.narrowTo h1 hxv
     refine ⟨ρ', h2.cellTo he fun v' y hv' hy => ?_⟩
     have hj : Jth (a.tmps.getD s undef) j v y := by
      unfold narrow at h1
      split at h1
      ·split at h1
       ·cases h1
       ·simp only [Option.some.injEq] at h1; subst h1
        obtain ⟨u1, hu1, rfl⟩ := zU (st := st.dropRow d) hv'
        obtain ⟨u2, hu2, rfl⟩ := zU (st := st) hu1
        have : u2 = v := by have := hu2.symm.trans hv; simpa using this
        rw [<- this]; exact qBg.1 (qBg.1 hy)
      ·cases h1
     rw [qBE hj hx]
     exact ⟨hval.symm, hone⟩
    ·cases he
   ·cases he
  ·rename_i d hc
   split at he
   ·rename_i r hr
    split at he
    ·cases he
    ·have hd := qI hr
     obtain ⟨x, hx, hxv⟩ := qC9 hsv hc
     have h1 := (h.dropRow d).addF (G := ρ.ft d) (h.take hd)
     refine ⟨_, h1.cellTo he fun v' y hv' hy => ?_⟩
     obtain ⟨u, hu, rfl⟩ := zU (st := st) hv'
     have : u = v := by have := hu.symm.trans hv; simpa using this
     subst this
     rw [qBE (qBg.1 hy) hx, show x = ρ.val d from hxv.1]
     have := xU (kX.whole (qJ hr) (h.rows d r hd).2.2.1)
     obtain ⟨v0, e, h0⟩ := kD.1 this
     simp only [List.cons.injEq, and_true] at e
     rw [e]; exact h0
   ·cases he
  ·simp only [Option.some.injEq] at he; subst he; exact ⟨ρ, h⟩
  ·cases he
theorem qM5 (h : Rep φ ρ st a w) {b j : Nat} {c : Co} {st' : St} (he : qPD st b j c = some st') : ∃ ρ', Rep φ ρ' st' a w := by
 unfold qPD at he
 split at he
 ·cases he
 ·rename_i x hx
  obtain ⟨arr, fr, k1, k2, k3⟩ := h.cellsBox hx
  split at he
  ·rename_i d m hc
   split at he
   ·rename_i st1 h1
    obtain ⟨ρ', h2, hval, hblk, _⟩ := h.rename h1
    obtain ⟨y, hy, hyv⟩ := k3.get hc
    refine ⟨ρ', h2.boxTo he fun x' arr' fr' y' hx' ha' hy' => ?_⟩
    rw [hblk, k1] at ha'
    simp only [Option.some.injEq, Obj.cells.injEq] at ha'
    obtain ⟨rfl, _, _⟩ := ha'
    rw [hy] at hy'
    simp only [Option.some.injEq] at hy'
    subst hy'
    exact ⟨by rw [hyv.1, hval], hyv.2⟩
   ·cases he
  ·rename_i d lo hi m hc
   split at he
   ·rename_i hlo
    subst hlo
    split at he
    ·rename_i st1 h1
     obtain ⟨y, hy, hyv⟩ := k3.get hc
     obtain ⟨ρ', h2, hval, hblk, hone⟩ := h.narrowTo h1 hyv
     refine ⟨ρ', h2.boxTo he fun x' arr' fr' y' hx' ha' hy' => ?_⟩
     rw [hblk, k1] at ha'
     simp only [Option.some.injEq, Obj.cells.injEq] at ha'
     obtain ⟨rfl, _, _⟩ := ha'
     rw [hy] at hy'
     simp only [Option.some.injEq] at hy'
     subst hy'
     exact ⟨hval.symm, hone⟩
    ·cases he
   ·cases he
  ·rename_i d hc
   split at he
   ·rename_i r hr
    split at he
    ·cases he
    ·have hd := qI hr
     obtain ⟨y, hy, hyv⟩ := k3.get hc
     have h1 := (h.dropRow d).addF (G := ρ.ft d) (h.take hd)
     refine ⟨_, h1.boxTo he fun x' arr' fr' y' hx' ha' hy' => ?_⟩
     have ha2 : w.heap[ρ.blk b]? = some (.cells arr' x'.e fr') := ha'
     rw [k1] at ha2
     simp only [Option.some.injEq, Obj.cells.injEq] at ha2
     obtain ⟨rfl, _, _⟩ := ha2
     rw [hy] at hy'
     simp only [Option.some.injEq] at hy'
     subst hy'
     rw [show y = ρ.val d from hyv.1]
     have := xU (kX.whole (qJ hr) (h.rows d r hd).2.2.1)
     obtain ⟨v0, e, h0⟩ := kD.1 this
     simp only [List.cons.injEq, and_true] at e
     rw [e]; exact h0
   ·cases he
  ·simp only [Option.some.injEq] at he; subst he; exact ⟨ρ, h⟩
  ·cases he
theorem qKr : ∀ {cs : List (Nat × Nat × Co)} {ρ : Env} {st st' : St}, Rep φ ρ st a w -> cos st cs = some st' -> ∃ ρ', Rep φ ρ' st' a w
 | [], ρ, st, st', h, he => by simp only [cos, Option.some.injEq] at he; subst he; exact ⟨ρ, h⟩
 | (s, j, c) :: cs, ρ, st, st', h, he => by
  simp only [cos] at he
  split at he
  ·rename_i st1 h1
   split at h1
   ·obtain ⟨ρ1, r1⟩ := qNL h h1; exact qKr r1 he
   ·obtain ⟨ρ1, r1⟩ := qM5 h h1; exact qKr r1 he
  ·cases he
theorem qLq (h : Rep φ ρ st a w) {ks : List Nat} {cs : List (Nat × Nat × Co)} {st' : St} (he : qCJ ks cs st = some st') : ∃ ρ', Rep φ ρ' st' a w := by
 unfold qCJ at he
 simp only at he
 split at he
 ·cases he
 ·rename_i st2 h2
  simp only [Option.some.injEq] at he; subst he
  obtain ⟨ρ2, r2⟩ := qKr (h.keepSlots ks) h2
  exact (r2.usedBoxes.usedBoxes).usedRows
theorem wR {k : qPp} {P : St -> Prop} (h : Rep φ ρ st a w) (he : vN k st P) : qAn φ P a w := by
 unfold vN at he
 split at he
 ·rename_i st' h'
  obtain ⟨ρ', r'⟩ := qLq h h'
  exact ⟨ρ', st', r', he⟩
 ·exact he.elim
end
def QK (φ : Fix) (K : X -> St -> Prop) : Exit -> Act -> World -> Prop
 | .normal, a, w => qAn φ (K .normal) a w
 | .exit i, a, w => qAn φ (K (.exit i)) a w
 | .ret, a, w => qAn φ (K .ret) a w
 | _, _, _ => False
def qDm (P : Program) (c : Code) (Q : Exit -> Act -> World -> Prop) (a : Act) (w : World) : Prop :=
 ∀ (b : Frame) (k : List Item) (cs : List Frame), ∃ e a' w', Q e a' w' /\ Arrives P (lone (b.at a (.code c :: .inLoop c :: k)) cs w) b k cs e a' w'
theorem qDm.loop {P : Program} {c : Code} {Q : Exit -> Act -> World -> Prop} {a : Act} {w : World} (h : qDm P c Q a w) : (Code.loop c).wp P Q a w := by
 intro b k cs
 obtain ⟨e, a', w', hq, harr⟩ := h b k cs
 exact ⟨e, a', w', hq, .of_steps (.one step_loop) harr⟩
theorem qDm.round {P : Program} {c : Code} {Q : Exit -> Act -> World -> Prop} {a : Act} {w : World} (h : c.wp P (Exit.then (qDm P c Q) Q) a w) : qDm P c Q a w := by
 intro b k cs
 obtain ⟨e, a₁, w₁, hq, harr⟩ := h b (.inLoop c :: k) cs
 cases e with
 | normal =>
  obtain ⟨e₂, a₂, w₂, hq₂, harr₂⟩ := hq b k cs
  exact ⟨e₂, a₂, w₂, hq₂, .of_steps (Steps.trans harr (.one step_inLoop)) harr₂⟩
 | exit id => exact ⟨_, a₁, w₁, hq, .pass (x := .inLoop c) rfl (fun _ _ => .inl (by simp)) harr⟩
 | goto l => exact ⟨_, a₁, w₁, hq, .pass (x := .inLoop c) rfl (fun _ _ => .inl (by simp)) harr⟩
 | ret => exact ⟨_, a₁, w₁, hq, .pass (x := .inLoop c) rfl (fun _ _ => .inl (by simp)) harr⟩
 | panic ch => exact ⟨_, a₁, w₁, hq, .pass (x := .inLoop c) rfl (fun _ _ => .inl (by simp)) harr⟩
 | outgrown => exact ⟨_, a₁, w₁, hq, .pass (x := .inLoop c) rfl (fun _ _ => .inl (by simp)) harr⟩
def qPT (P : Program) (nt : Nat) (fi : Fi) (c0 : Code) (lp : kY) : Prop := ∀ b, (qO (1000000 + jK b) fi.loops).isSome = true -> jB (jK b) c0 = some b -> ∀ (φ : Fix) (ρ : Env) (st : St) (a : Act) (w : World) (K : X -> St -> Prop),
 Rep φ ρ st a w -> nt <= φ.N -> lp (1000000 + jK b) st K -> b.wp P (QK φ K) a w
def qK3 (P : Program) (nt : Nat) (fi : Fi) (c0 : Code) (lp : kY) : Prop := qPT P nt fi c0 lp /\ ∀ body, zZ body < 1000000 -> qS (zZ body) c0 = some body -> ∀ (φ : Fix) (ρ : Env) (st : St) (a : Act) (w : World) (K : X -> St -> Prop),
 Rep φ ρ st a w -> nt <= φ.N -> lp (zZ body) st K -> qDm P body (QK φ K) a w
def jV (p : Code -> Prop) : Code -> Prop
 | .loop a => p a /\ jV p a
 | .seq a b => jV p a /\ jV p b
 | .cond _ a b => jV p a /\ jV p b
 | .block _ a => jV p a
 | _ => True
def vC : Code -> List Nat
 | .loop a => zZ a :: vC a
 | .seq a b => vC a ++ vC b
 | .cond _ a b => vC a ++ vC b
 | .block _ a => vC a
 | _ => []
theorem jV.imp {p q : Code -> Prop} (h : ∀ a, p a -> q a) : ∀ {c : Code}, jV p c -> jV q c := by
 intro c
 induction c with
 | loop a ih => exact fun hp => ⟨h a hp.1, ih hp.2⟩
 | seq a b iha ihb => exact fun hp => ⟨iha hp.1, ihb hp.2⟩
 | cond c a b iha ihb => exact fun hp => ⟨iha hp.1, ihb hp.2⟩
 | block i a ih => exact fun hp => ih hp
 | _ => exact fun _ => trivial
theorem qEF {k : Nat} : ∀ {c : Code}, k ∉ vC c -> qS k c = none := by
 intro c
 induction c with
 | loop a ih =>
  intro h
  simp only [vC, List.mem_cons, not_or] at h
  simp only [qS]
  rw [if_neg (fun e => h.1 e.symm)]
  exact ih h.2
 | seq a b iha ihb =>
  intro h
  simp only [vC, List.mem_append, not_or] at h
  simp only [qS, iha h.1, ihb h.2]
 | cond c a b iha ihb =>
  intro h
  simp only [vC, List.mem_append, not_or] at h
  simp only [qS, iha h.1, ihb h.2]
 | block i a ih => intro h; simp only [qS]; exact ih h
 | _ => intro _; rfl
theorem qB3 {c : Code} : jV (fun a => zZ a ∈ vC c) c := by
 induction c with
 | loop a ih => exact ⟨List.mem_cons_self, ih.imp fun x hx => List.mem_cons_of_mem _ hx⟩
 | seq a b iha ihb => exact ⟨iha.imp fun x hx => List.mem_append_left _ hx, ihb.imp fun x hx => List.mem_append_right _ hx⟩
 | cond c a b iha ihb => exact ⟨iha.imp fun x hx => List.mem_append_left _ hx, ihb.imp fun x hx => List.mem_append_right _ hx⟩
 | block i a ih => exact ih
 | _ => trivial
theorem jV.and {p q : Code -> Prop} : ∀ {c : Code}, jV p c -> jV q c -> jV (fun a => p a /\ q a) c := by
 intro c
 induction c with
 | loop a ih => exact fun h1 h2 => ⟨⟨h1.1, h2.1⟩, ih h1.2 h2.2⟩
 | seq a b iha ihb => exact fun h1 h2 => ⟨iha h1.1 h2.1, ihb h1.2 h2.2⟩
 | cond c a b iha ihb => exact fun h1 h2 => ⟨iha h1.1 h2.1, ihb h1.2 h2.2⟩
 | block i a ih => exact fun h1 h2 => ih h1 h2
 | _ => exact fun _ _ => trivial
theorem qBc {c : Code} (h : (vC c).Nodup) : jV (fun a => qS (zZ a) c = some a) c := by
 have two : ∀ (a b : Code), ((vC a) ++ (vC b)).Nodup -> jV (fun x => qS (zZ x) a = some x) a -> jV (fun x => qS (zZ x) b = some x) b ->
   jV (fun x => (match qS (zZ x) a with | some c => some c | none => qS (zZ x) b) = some x) a /\ jV (fun x => (match qS (zZ x) a with | some c => some c | none => qS (zZ x) b) = some x) b := by
  intro a b hn ha hb
  refine ⟨ha.imp fun x hx => by rw [hx], (hb.and qB3).imp fun x ⟨hx, hm⟩ => ?_⟩
  have : zZ x ∉ vC a := fun hm' => (List.nodup_append.1 hn).2.2 _ hm' _ hm rfl
  rw [qEF this]; exact hx
 induction c with
 | loop a ih =>
  simp only [vC, List.nodup_cons] at h
  refine ⟨by simp [qS], ((ih h.2).and qB3).imp fun x ⟨hx, hm⟩ => ?_⟩
  simp only [qS]
  rw [if_neg]
  ·exact hx
  ·intro e; rw [e] at h; exact h.1 hm
 | seq a b iha ihb =>
  have hn := List.nodup_append.1 h
  exact two a b h (iha hn.1) (ihb hn.2.1)
 | cond c a b iha ihb =>
  have hn := List.nodup_append.1 h
  exact two a b h (iha hn.1) (ihb hn.2.1)
 | block i a ih => exact ih h
 | _ => trivial
def zF (p : Code -> Prop) : Code -> Prop
 | .seq a b => p b /\ zF p a /\ zF p b
 | .loop a => zF p a
 | .cond _ a b => zF p a /\ zF p b
 | .block _ a => zF p a
 | _ => True
def vV (d : Nat -> Bool) : Code -> List Nat
 | .seq a b => (if d (jK b) then [jK b] else []) ++ (vV d a ++ vV d b)
 | .loop a => vV d a
 | .cond _ a b => vV d a ++ vV d b
 | .block _ a => vV d a
 | _ => []
theorem zF.imp {p q : Code -> Prop} (h : ∀ a, p a -> q a) : ∀ {c : Code}, zF p c -> zF q c := by
 intro c
 induction c with
 | loop a ih => exact fun hp => ih hp
 | seq a b iha ihb => exact fun hp => ⟨h b hp.1, iha hp.2.1, ihb hp.2.2⟩
 | cond c a b iha ihb => exact fun hp => ⟨iha hp.1, ihb hp.2⟩
 | block i a ih => exact fun hp => ih hp
 | _ => exact fun _ => trivial
theorem qF5 {d : Nat -> Bool} {k : Nat} (hk : d k = true) : ∀ {c : Code}, k ∉ vV d c -> jB k c = none := by
 intro c
 induction c with
 | loop a ih => intro h; simp only [jB]; exact ih h
 | seq a b iha ihb =>
  intro h
  simp only [vV, List.mem_append, not_or] at h
  simp only [jB]
  rw [if_neg, iha h.2.1, ihb h.2.2]
  intro e
  rw [e, if_pos hk] at h
  exact h.1 List.mem_cons_self
 | cond c a b iha ihb =>
  intro h
  simp only [vV, List.mem_append, not_or] at h
  simp only [jB, iha h.1, ihb h.2]
 | block i a ih => intro h; simp only [jB]; exact ih h
 | _ => intro _; rfl
theorem qAF {d : Nat -> Bool} {c : Code} : zF (fun b => d (jK b) = true -> jK b ∈ vV d c) c := by
 induction c with
 | loop a ih => exact ih
 | seq a b iha ihb =>
  refine ⟨fun h => ?_, iha.imp fun x hx h => ?_, ihb.imp fun x hx h => ?_⟩
  ·simp only [vV, if_pos h]; exact List.mem_append_left _ List.mem_cons_self
  ·exact List.mem_append_right _ (List.mem_append_left _ (hx h))
  ·exact List.mem_append_right _ (List.mem_append_right _ (hx h))
 | cond c a b iha ihb => exact ⟨iha.imp fun x hx h => List.mem_append_left _ (hx h), ihb.imp fun x hx h => List.mem_append_right _ (hx h)⟩
 | block i a ih => exact ih
 | _ => trivial
theorem zF.and {p q : Code -> Prop} : ∀ {c : Code}, zF p c -> zF q c -> zF (fun a => p a /\ q a) c := by
 intro c
 induction c with
 | loop a ih => exact fun h1 h2 => ih h1 h2
 | seq a b iha ihb => exact fun h1 h2 => ⟨⟨h1.1, h2.1⟩, iha h1.2.1 h2.2.1, ihb h1.2.2 h2.2.2⟩
 | cond c a b iha ihb => exact fun h1 h2 => ⟨iha h1.1 h2.1, ihb h1.2 h2.2⟩
 | block i a ih => exact fun h1 h2 => ih h1 h2
 | _ => exact fun _ _ => trivial
theorem qB2 {d : Nat -> Bool} {c : Code} (h : (vV d c).Nodup) : zF (fun b => d (jK b) = true -> jB (jK b) c = some b) c := by
 have two : ∀ (a b : Code), ((vV d a) ++ (vV d b)).Nodup -> zF (fun x => d (jK x) = true -> jB (jK x) a = some x) a -> zF (fun x => d (jK x) = true -> jB (jK x) b = some x) b ->
   zF (fun x => d (jK x) = true -> (match jB (jK x) a with | some c => some c | none => jB (jK x) b) = some x) a /\ zF (fun x => d (jK x) = true -> (match jB (jK x) a with | some c => some c | none => jB (jK x) b) = some x) b := by
  intro a b hn ha hb
  refine ⟨ha.imp fun x hx h => by rw [hx h], (hb.and (qAF (d := d))).imp fun x ⟨hx, hm⟩ h => ?_⟩
  have : jK x ∉ vV d a := fun hm' => (List.nodup_append.1 hn).2.2 _ hm' _ (hm h) rfl
  rw [qF5 h this]; exact hx h
 induction c with
 | loop a ih => exact ih h
 | seq a b iha ihb =>
  simp only [vV] at h
  have h2 := (List.nodup_append.1 h).2.1
  have hn := List.nodup_append.1 h2
  obtain ⟨t1, t2⟩ := two a b h2 (iha hn.1) (ihb hn.2.1)
  have apart : ∀ x, d (jK x) = true -> jK x ∈ vV d a ++ vV d b -> ¬ jK b = jK x := by
   intro x h0 hm e
   have hb0 : d (jK b) = true := by rw [e]; exact h0
   refine (List.nodup_append.1 h).2.2 (jK b) ?_ (jK x) hm e
   rw [if_pos hb0]; exact List.mem_cons_self
  refine ⟨fun _ => by simp [jB], (t1.and (qAF (d := d))).imp fun x ⟨hx, hm⟩ h0 => ?_, (t2.and (qAF (d := d))).imp fun x ⟨hx, hm⟩ h0 => ?_⟩
  ·simp only [jB]
   rw [if_neg (apart x h0 (List.mem_append_left _ (hm h0)))]; exact hx h0
  ·simp only [jB]
   rw [if_neg (apart x h0 (List.mem_append_right _ (hm h0)))]; exact hx h0
 | cond c a b iha ihb =>
  have hn := List.nodup_append.1 h
  exact two a b h (iha hn.1) (ihb hn.2.1)
 | block i a ih => exact ih h
 | _ => trivial
section
variable {P : Program} {C : Ctx}
theorem qPQ {φ : Fix} {K K' : X -> St -> Prop} (h : ∀ x s, K x s -> K' x s) (e : Exit) (a : Act) (w : World) (hq : QK φ K e a w) : QK φ K' e a w := by
 cases e with
 | normal => exact hq.imp (h _)
 | exit i => exact hq.imp (h _)
 | ret => exact hq.imp (h _)
 | _ => exact hq
theorem qKl (hC : jT P C) (hm : P.follows .mixedOrders = true) {call : jG} (hcall : yZ P C call) {nt : Nat} {fi : Fi} {c0 : Code} {lp : kY} (hlp : qK3 P nt fi c0 lp) {φ : Fix} (hN : nt <= φ.N) :
  ∀ (c : Code), jV (fun x => qS (zZ x) c0 = some x) c -> zF (fun b => (qO (1000000 + jK b) fi.loops).isSome = true -> jB (jK b) c0 = some b) c -> ∀ (ρ : Env) (st : St) (a : Act) (w : World) (K : X -> St -> Prop), Rep φ ρ st a w -> evC C call nt fi lp c st K -> c.wp P (QK φ K) a w := by
 intro c
 induction c with
 | skip => intro _ _ ρ st a w K h he; exact wp_skip ⟨ρ, st, h, he⟩
 | region id ops draw =>
  intro _ _ ρ st a w K h he
  unfold evC at he
  split at he
  ·exact he.elim
  ·rename_i hd
   have hds : ∀ (i : Nat) o s, ops[i]? = some o -> o.dst = some s -> s < φ.N := by
    intro i o s ho hs
    have := Array.all_eq_true_iff_forall_mem.1 hd o (Array.mem_of_getElem? ho)
    rw [hs] at this
    simp only [decide_eq_true_eq] at this
    exact Nat.lt_of_lt_of_le this hN
   cases draw with
   | false =>
    simp only [Bool.false_eq_true, if_false] at he
    exact wp_region (qH5 hC hcall hds (fun a w h => h) _ h he)
   | true =>
    simp only [if_true] at he
    split at he
    ·rename_i hn
     refine wp_region_any hm (qDB (C := C) _ _ _ _ ?_)
     exact qEH hC hcall hds hn (fun a w h => h) (fun c a w h => h) ops.size (qBh.none ops ops.size) (h.grows (zB.draw w)) he
    ·exact he.elim
 | seq a b iha ihb =>
  intro hl hs ρ st ac w K h he
  unfold evC at he
  refine wp_seq (wp_mono (iha hl.1 hs.2.1 ρ st ac w _ h he) fun e a' w' hq => ?_)
  cases e with
  | normal =>
   obtain ⟨ρ', st', h', he'⟩ := hq
   simp only at he'
   split at he'
   ·exact ihb hl.2 hs.2.2 ρ' st' a' w' K h' he'
   ·rename_i li hli
    have h0 : (qO (1000000 + jK b) fi.loops).isSome = true := by rw [hli]; rfl
    obtain ⟨ρ2, st2, h2, he2⟩ := wR h' he'
    exact hlp.1 b h0 (hs.1 h0) φ ρ2 st2 a' w' K h2 hN he2
  | exit i => exact hq
  | ret => exact hq
  | goto l => exact hq.elim
  | panic c => exact hq.elim
  | outgrown => exact hq.elim
 | cond c a b iha ihb =>
  intro hl hs ρ st ac w K h he
  unfold evC at he
  split at he
  ·rename_i t hx
   have hv : ac.eval c = .bool t := jE h hx
   refine wp_cond hv ?_
   have go : ∀ (st' : St), Rep φ ρ st' ac w -> (if t = true then evC C call nt fi lp a st' K else evC C call nt fi lp b st' K) -> (if t = true then a else b).wp P (QK φ K) ac w := by
    intro st' h' he'
    cases t with
    | true => exact iha hl.1 hs.1 ρ st' ac w K h' he'
    | false => exact ihb hl.2 hs.2 ρ st' ac w K h' he'
   split at he
   ·rename_i s
    have hq := h.slots s _ hx
    cases t with
    | true =>
     simp only [if_true] at he ⊢
     exact iha hl.1 hs.1 ρ _ ac w K (h.reset hq.1 hq.2) he
    | false =>
     simp only [Bool.false_eq_true, if_false] at he ⊢
     exact ihb hl.2 hs.2 ρ _ ac w K (h.reset hq.1 hq.2) he
   ·exact go st h he
  ·exact he.elim
 | block id a iha =>
  intro hl hs ρ st ac w K h he
  unfold evC at he
  refine wp_block (wp_mono (iha hl hs ρ st ac w _ h he) fun e a' w' hq => ?_)
  cases e with
  | normal => exact hq
  | exit j =>
   obtain ⟨ρ', st', h', he'⟩ := hq
   simp only [Exit.inBlock]
   simp only at he'
   split
   ·rename_i hj; rw [if_pos hj] at he'; exact ⟨ρ', st', h', he'⟩
   ·rename_i hj; rw [if_neg hj] at he'; exact ⟨ρ', st', h', he'⟩
  | ret => exact hq
  | goto l => exact hq.elim
  | panic c => exact hq.elim
  | outgrown => exact hq.elim
 | loop a iha =>
  intro hl hs ρ st ac w K h he
  unfold evC at he
  split at he
  ·exact he.elim
  rename_i hlt
  split at he
  ·rename_i li hli
   obtain ⟨ρ', st', h', he'⟩ := wR h he
   exact (hlp.2 a (Nat.not_le.1 hlt) hl.1 φ ρ' st' ac w K h' hN he').loop
  ·exact he.elim
 | exit id => intro _ _ ρ st a w K h he; exact wp_exit ⟨ρ, st, h, he⟩
 | ret => intro _ _ ρ st a w K h he; exact wp_ret ⟨ρ, st, h, he⟩
 | _ => intro _ _ ρ st a w K h he; exact he.elim
end
def Env.onW (ρ : Env) (o : Nat -> Prop) : Env := { ρ with on := o }
theorem qL.onW {φ : Fix} {ρ : Env} {st : St} {w : World} {B : Nat -> Prop} {o : Nat -> Prop} (h : qL φ ρ st w B) : qL φ (ρ.onW o) st w B := ⟨h.row, h.box, h.here⟩
theorem qL.offW {φ : Fix} {ρ : Env} {st : St} {w : World} {B : Nat -> Prop} {o : Nat -> Prop} (h : qL φ (ρ.onW o) st w B) : qL φ ρ st w B := ⟨h.row, h.box, h.here⟩
theorem qIA {F : Nat -> Prop} {w : World} : ∀ {t : Ty} {M : Nat} {x : t.T} {off : Nat} {e : TypeId} {u : Ty} {l : List u.T} {B : Nat -> Prop} {vs : List Value}, t.slAt x off = some ⟨e, u, l⟩ -> qN F w t M x B vs ->
  ∃ Bx v, (∀ y, Bx y -> B y) /\ vs[off]? = some v /\ qN F w (.sl e u) M l Bx [v] /\
   ∀ (F' : Nat -> Prop) (w' : World) (e' : TypeId) (u' : Ty) (l' : List u'.T) (Bx' : Nat -> Prop) (x' : t.T), (∀ y, F y -> F' y) -> qG F w w' -> qG (fun y => B y /\ ¬ Bx y) w w' -> qN F' w' (.sl e' u') M l' Bx' [v] ->
    (∀ y, Bx' y -> ¬ (B y /\ ¬ Bx y)) -> t.slSet x off e' u' l' = some x' -> qN F' w' t M x' (fun y => (B y /\ ¬ Bx y) \/ Bx' y) vs := by
 intro t
 induction t with
 | prod a b iha ihb =>
  intro M x off e u l B vs hat h
  rw [qN] at h
  obtain ⟨v1, v2, B1, B2, rfl, d1, d2, h1, h2⟩ := h
  have hl := jM h1
  simp only [Ty.slAt] at hat
  by_cases ho : off < a.sz
  ·rw [if_pos ho] at hat
   obtain ⟨Bx, v, g1, g2, g3, g4⟩ := iha hat h1
   refine ⟨Bx, v, fun y hy => (d1 y (g1 y hy)).1, by rw [List.getElem?_append_left (by omega)]; exact g2, g3, ?_⟩
   intro F' w' e' u' l' Bx' x' hF ha hb ho' hd hset
   simp only [Ty.slSet] at hset
   rw [if_pos ho] at hset
   cases hr : a.slSet x.1 off e' u' l' with
   | none => simp [hr] at hset
   | some x1 =>
    simp only [hr, Option.map_some, Option.some.injEq] at hset
    subst hset
    have k1 := g4 F' w' e' u' l' Bx' x1 hF ha (hb.mono fun y hy => ⟨(d1 y hy.1).1, hy.2⟩) ho' (fun y hy hh => hd y hy ⟨(d1 y hh.1).1, hh.2⟩) hr
    have n2 : ∀ y, B2 y -> ¬ Bx y := fun y hy hx => (d1 y (g1 y hx)).2 hy
    rw [qN]
    refine ⟨v1, v2, _, B2, rfl, fun y hy => ?_, fun y hy => .inl ⟨d2 y hy, n2 y hy⟩, k1, jD hF ha (hb.mono fun y hy => ⟨d2 y hy, n2 y hy⟩) h2⟩
    rcases hy with hy | hy
    ·exact ⟨.inl ⟨(d1 y hy.1).1, hy.2⟩, (d1 y hy.1).2⟩
    ·exact ⟨.inr hy, fun h2' => hd y hy ⟨d2 y h2', n2 y h2'⟩⟩
  ·rw [if_neg ho] at hat
   obtain ⟨Bx, v, g1, g2, g3, g4⟩ := ihb hat h2
   refine ⟨Bx, v, fun y hy => d2 y (g1 y hy), by rw [List.getElem?_append_right (by omega), hl]; exact g2, g3, ?_⟩
   intro F' w' e' u' l' Bx' x' hF ha hb ho' hd hset
   simp only [Ty.slSet] at hset
   rw [if_neg ho] at hset
   cases hr : b.slSet x.2 (off - a.sz) e' u' l' with
   | none => simp [hr] at hset
   | some x2 =>
    simp only [hr, Option.map_some, Option.some.injEq] at hset
    subst hset
    have k2 := g4 F' w' e' u' l' Bx' x2 hF ha (hb.mono fun y hy => ⟨d2 y hy.1, hy.2⟩) ho' (fun y hy hh => hd y hy ⟨d2 y hh.1, hh.2⟩) hr
    have n1 : ∀ y, B1 y -> ¬ Bx y := fun y hy hx => (d1 y hy).2 (g1 y hx)
    rw [qN]
    refine ⟨v1, v2, B1, _, rfl, fun y hy => ⟨.inl ⟨(d1 y hy).1, n1 y hy⟩, ?_⟩, fun y hy => ?_, jD hF ha (hb.mono fun y hy => ⟨(d1 y hy).1, n1 y hy⟩) h1, k2⟩
    ·rintro (hh | hh)
     ·exact (d1 y hy).2 hh.1
     ·exact hd y hh ⟨(d1 y hy).1, n1 y hy⟩
    ·rcases hy with hy | hy
     ·exact .inl ⟨d2 y hy.1, hy.2⟩
     ·exact .inr hy
 | sl e0 t0 _ =>
  intro M x off e u l B vs hat h
  simp only [Ty.slAt] at hat
  split at hat
  ·rename_i h0
   simp only [Option.some.injEq, Sigma.mk.injEq] at hat
   obtain ⟨rfl, hat⟩ := hat
   obtain ⟨rfl, hat⟩ := (Sigma.mk.injEq ..).mp (eq_of_heq hat)
   obtain rfl := eq_of_heq hat
   have hlen := jM h
   match vs, hlen with
   | [v], _ =>
    refine ⟨B, v, fun _ h => h, by rw [h0]; rfl, h, ?_⟩
    intro F' w' e' u' l' Bx' x' hF ha hb ho' hd hset
    simp only [Ty.slSet, h0, true_and] at hset
    split at hset
    ·rename_i he
     subst he
     split at hset
     ·rename_i hu
      subst hu
      simp only [Option.some.injEq] at hset
      subst hset
      exact zK (fun y hy => .inr hy) ho'
     ·cases hset
    ·cases hset
  ·cases hat
 | _ => intro M x off e u l B vs hat; simp [Ty.slAt] at hat
theorem qJt {F : Nat -> Prop} {w : World} {er : TypeId} {t : Ty} {M : Nat} {L : List t.T} {B : Nat -> Prop} {v : Value} {b n c i off : Nat} {e : TypeId} {u : Ty} {l : List u.T}
  (h : qN F w (.sl er t) (M + 1) L B [v]) (hv : qAu v b n c) (hi : i < n) (hat : t.slAt (nth t L i) off = some ⟨e, u, l⟩) :
  ∃ Bx v', (∀ y, Bx y -> B y) /\ w.cell? ⟨b, i * t.sz + off, none⟩ = some v' /\ qN F w (.sl e u) M l Bx [v'] /\
   ∀ (F' : Nat -> Prop) (w' : World) (e' : TypeId) (u' : Ty) (l' : List u'.T) (Bx' : Nat -> Prop) (x' : t.T), (∀ y, F y -> F' y) -> qG F w w' -> qG (fun y => B y /\ ¬ Bx y) w w' -> qN F' w' (.sl e' u') M l' Bx' [v'] ->
    (∀ y, Bx' y -> ¬ (B y /\ ¬ Bx y)) -> t.slSet (nth t L i) off e' u' l' = some x' -> qN F' w' (.sl er t) (M + 1) (L.set i x') (fun y => (B y /\ ¬ Bx y) \/ Bx' y) [v] := by
 rw [qN] at h
 obtain ⟨v0, e1, a, cc, e2, hh⟩ := h
 simp only [List.cons.injEq, and_true] at e1
 subst e1
 rw [qAu] at hv
 rw [hv] at e2
 simp only [Value.slice.injEq] at e2
 obtain ⟨rfl, rfl, rfl⟩ := e2
 rcases hh with ⟨h0, _⟩ | ⟨b', arr, fr, e3, h2, h3, h4, h5, h6, Bs, h7, h8, h9⟩
 ·rw [h0] at hi; simp at hi
 simp only [Option.some.injEq, Addr.mk.injEq, and_true] at e3
 subst e3
 obtain ⟨vs, g1, g2⟩ := h9 i hi
 rw [kE hi] at hat ⊢
 obtain ⟨Bx, v', k1, k2, k3, k4⟩ := qIA hat g2
 have bn : ¬ Bx b := fun hx => (h7 i b hi (k1 b hx)).2 rfl
 refine ⟨Bx, v', fun y hy => (h7 i y hi (k1 y hy)).1, ?_, k3, ?_⟩
 ·obtain ⟨hj, hje⟩ := List.getElem?_eq_some_iff.1 k2
  have := g1 off hj
  rw [hje] at this
  exact this
 ·intro F' w' e' u' l' Bx' x' hF ha hb ho' hd hset
  have hnew := k4 F' w' e' u' l' Bx' x' hF ha (hb.mono fun y hy => ⟨(h7 i y hi hy.1).1, hy.2⟩) ho' (fun y hy hh => hd y hy ⟨(h7 i y hi hh.1).1, hh.2⟩) hset
  have nB : ∀ j y, j < L.length -> j ≠ i -> Bs j y -> ¬ Bx y := fun j y hj hji hy hx => hji (h8 j i y hj hi hy (k1 y hx))
  rw [qN]
  refine ⟨v, rfl, _, c, by rw [hv]; simp, .inr ⟨b, arr, fr, rfl, hb b _ ⟨h6, bn⟩ h2, h3, h4, by simpa using h5, .inl ⟨h6, bn⟩, fun j y => if j = i then (Bs i y /\ ¬ Bx y) \/ Bx' y else Bs j y, ?_, ?_, ?_⟩⟩
  ·intro j y hj hy
   simp only [List.length_set] at hj
   split at hy
   ·rcases hy with hy | hy
    ·exact ⟨.inl ⟨(h7 i y hi hy.1).1, hy.2⟩, (h7 i y hi hy.1).2⟩
    ·exact ⟨.inr hy, by rintro rfl; exact hd y hy ⟨h6, bn⟩⟩
   ·rename_i hji
    exact ⟨.inl ⟨(h7 j y hj hy).1, nB j y hj hji hy⟩, (h7 j y hj hy).2⟩
  ·intro j k y hj hk hy hy'
   simp only [List.length_set] at hj hk
   by_cases hji : j = i <;> by_cases hki : k = i
   ·rw [hji, hki]
   ·rw [if_pos hji] at hy
    rw [if_neg hki] at hy'
    rcases hy with hy | hy
    ·exact absurd (h8 k i y hk hi hy' hy.1) hki
    ·exact absurd ⟨(h7 k y hk hy').1, nB k y hk hki hy'⟩ (hd y hy)
   ·rw [if_neg hji] at hy
    rw [if_pos hki] at hy'
    rcases hy' with hy' | hy'
    ·exact absurd (h8 j i y hj hi hy hy'.1) hji
    ·exact absurd ⟨(h7 j y hj hy).1, nB j y hj hji hy⟩ (hd y hy')
   ·rw [if_neg hji] at hy
    rw [if_neg hki] at hy'
    exact h8 j k y hj hk hy hy'
  ·intro j hj
   simp only [List.length_set] at hj
   obtain ⟨us, q1, q2⟩ := h9 j hj
   by_cases hji : j = i
   ·subst hji
    have : us = vs := by
     have e1 := jM q2
     have e2 := jM g2
     apply List.ext_getElem (by omega)
     intro k hk hk'
     have := (q1 k hk).symm.trans (g1 k hk')
     simpa using this
    refine ⟨vs, hb.cellsAt ⟨h6, bn⟩ g1, ?_⟩
    simp only [if_true, List.getElem_set_self]
    exact hnew
   ·refine ⟨us, hb.cellsAt ⟨h6, bn⟩ q1, ?_⟩
    rw [List.getElem_set_ne (Ne.symm hji)]
    simp only [if_neg hji]
    exact jD hF ha (hb.mono fun y hy => ⟨(h7 j y hj hy).1, nB j y hj hji hy⟩) q2
section
variable {φ : Fix} {ρ : Env} {st : St} {a : Act} {w : World}
theorem Rep.lendRow (h : Rep φ ρ st a w) (d : Nat) : Rep φ (ρ.off d) { st.kill (CV.nested d) with rows := del d st.rows } a w := by
 have m : ∀ c : CV, c.says (CV.nested d) = false -> jS ρ (ρ.off d) w w c := fun c hc =>
  ⟨fun _ h => h, qG.refl _ _, fun _ _ => ⟨rfl, rfl⟩, fun e he ho => ⟨⟨(by rintro rfl; rw [he] at hc; cases hc), ho⟩, fun _ _ _ _ _ => qG.refl _ _⟩, fun _ _ => rfl⟩
 have hbx : ∀ {b x}, qO b (st.kill (CV.nested d)).boxes = some x -> ∃ y, qO b st.boxes = some y /\ y.ro = x.ro := fun hx => by
  obtain ⟨y, hy, e⟩ := qM hx; exact ⟨y, hy, by rw [e]⟩
 have hr : ∀ {e r}, qO e (del d st.rows) = some r -> e ≠ d /\ qO e st.rows = some r := fun {e r} hr => by
  rw [wL] at hr
  split at hr
  ·cases hr
  ·rename_i hn; exact ⟨hn, hr⟩
 exact {
  size := h.size, nodef := h.nodef
  on := fun e he => by
   obtain ⟨r, hr⟩ := h.on e he.2
   exact ⟨r, by simp only [wL, if_neg he.1]; exact hr⟩
  slots := h.slots_kill m
  rows := fun e r he => h.rows e r (hr he).2
  boxes := h.boxes_kill m fun _ _ _ => ⟨rfl, rfl⟩
  rsep := fun e e' r r' h1 h2 => h.rsep e e' r r' (hr h1).2 (hr h2).2
  rF := fun e r h1 => h.rF e r (hr h1).2
  rb := fun e r b x h1 h2 => by obtain ⟨y, hy, _⟩ := hbx h2; exact h.rb e r b y (hr h1).2 hy
  bsep := fun b b' x x' hx hx' hn => by obtain ⟨y, hy, _⟩ := hbx hx; obtain ⟨y', hy', _⟩ := hbx hx'; exact h.bsep b b' y y' hy hy' hn
  bF := fun b x hx => by obtain ⟨y, hy, e⟩ := hbx hx; rw [<- e]; exact h.bF b y hy
  Fbd := h.Fbd, F0 := h.F0, grow := h.grow, io := h.io, tab := h.tab, keep := h.keep, lentR := h.lentR, lentB := h.lentB }
structure qDn (st st' : St) : Prop where
 rows : ∀ d r, qO d st'.rows = some r -> qO d st.rows = some r
 boxes : ∀ b x, qO b st'.boxes = some x -> ∃ y, qO b st.boxes = some y
theorem qDn.refl (st : St) : qDn st st := ⟨fun _ _ h => h, fun b x h => ⟨x, h⟩⟩
theorem qDn.trans {st st' st'' : St} (h : qDn st st') (h' : qDn st' st'') : qDn st st'' :=
 ⟨fun d r hr => h.rows d r (h'.rows d r hr), fun b x hx => by obtain ⟨y, hy⟩ := h'.boxes b x hx; exact h.boxes b y hy⟩
theorem qL.fewer {st' : St} {B : Nat -> Prop} (h : qL φ ρ st w B) (hf : qDn st st') : qL φ ρ st' w B :=
 ⟨fun d r hr => h.row d r (hf.rows d r hr), fun b x hx => by obtain ⟨y, hy⟩ := hf.boxes b x hx; exact h.box b y hy, h.here⟩
theorem qIQ {p : CV -> Bool} {rows : List (Nat × Row)} (hr : ∀ d r, qO d rows = some r -> qO d st.rows = some r) : qDn st { st.kill p with rows := rows } :=
 ⟨hr, fun b x hx => by obtain ⟨y, hy, _⟩ := qM (st := st) hx; exact ⟨y, hy⟩⟩
theorem vH {d e : Nat} {α : Type} {l : List (Nat × α)} {r : α} (h : qO e (del d l) = some r) : e ≠ d /\ qO e l = some r := by
 rw [wL] at h
 split at h
 ·cases h
 ·rename_i hn; exact ⟨hn, h⟩
theorem qAE {F G : Nat -> Prop} {c : CV} {v : Value} (hp : c.plain = true) (hF : ∀ y, ρ.F y -> F y) (h : CVR ρ w c v) : BC0 F w c G v := by
 cases c with
 | row r => simp [CV.plain, CV.plain0] at hp
 | _ => exact ⟨hp, jU (yT hp hF (qG.refl _ _)) h⟩
theorem qGY {F G : Nat -> Prop} {e : TypeId} {t : Ty} {v : Value} (h : CVR ρ w (.emp e t) v) : BC0 F w (.row { e := e, t := t, l := [], m := 99 }) G v := by
 obtain ⟨A, rfl⟩ := (h : zP ρ w (.emp e t) v)
 refine ⟨rfl, ?_, fun hh => absurd rfl hh⟩
 show qN F w (.sl e t) (98 + 1) [] G _
 rw [qN]
 exact ⟨_, rfl, A, 0, rfl, .inl ⟨rfl, rfl⟩⟩
theorem qGM {F : Nat -> Prop} (h : Rep φ ρ st a w) {d : Nat} {r : Row} (hr : st.row? d = some r) (hF : ∀ y, ρ.F y -> F y) : BC0 F w (.row r) (ρ.ft d) (ρ.val d) := by
 obtain ⟨p1, p2, p3, p4⟩ := h.rows d r (qI hr)
 exact ⟨qJ hr, jD hF (qG.refl _ _) (qG.refl _ _) (kX.whole (qJ hr) p3), p4⟩
structure vL (φ : Fix) (ρ : Env) (st st' : St) (a : Act) (w : World) (B : Nat -> Prop) : Prop where
 rep : ∃ o, Rep φ (ρ.onW o) st' a w
 fewer : qDn st st'
 apart : qL φ ρ st' w B
 src : ∀ y, B y -> (∃ d r, qO d st.rows = some r /\ ρ.ft d y) \/ ∃ b x, qO b st.boxes = some x /\ ρ.blk b = y
theorem vL.none {o : Nat -> Prop} (h : Rep φ (ρ.onW o) st a w) : vL φ ρ st st a w (fun _ => False) := ⟨⟨o, h⟩, qDn.refl st, qL.none _ _ _ _, fun _ h => h.elim⟩
theorem vL.new {st' : St} {B B0 : Nat -> Prop} (h : vL φ ρ st st' a w B) (h0 : qL φ ρ st w B0) : ∀ y, B0 y -> ¬ B y := by
 intro y hy hb
 rcases h.src y hb with ⟨d, r, hd, hf⟩ | ⟨b, x, hb', rfl⟩
 ·exact h0.row d r hd y hf hy
 ·exact h0.box b x hb' hy
theorem vL.trans {st' st'' : St} {B1 B2 : Nat -> Prop} (h : vL φ ρ st st' a w B1) (h' : vL φ ρ st' st'' a w B2) : vL φ ρ st st'' a w (fun y => B1 y \/ B2 y) /\ ∀ y, B1 y -> ¬ B2 y := by
 refine ⟨⟨h'.rep, h.fewer.trans h'.fewer, (h.apart.fewer h'.fewer).or h'.apart, fun y hy => ?_⟩, h'.new h.apart⟩
 rcases hy with hy | hy
 ·exact h.src y hy
 ·rcases h'.src y hy with ⟨d, r, hd, hf⟩ | ⟨b, x, hb, e⟩
  ·exact .inl ⟨d, r, h.fewer.rows d r hd, hf⟩
  ·obtain ⟨x', hx'⟩ := h.fewer.boxes b x hb; exact .inr ⟨b, x', hx', e⟩
theorem vL.lend {o : Nat -> Prop} (h : Rep φ (ρ.onW o) st a w) {d : Nat} {r : Row} (hd : qO d st.rows = some r) : vL φ ρ st { st.kill (CV.nested d) with rows := del d st.rows } a w (ρ.ft d) where
 rep := ⟨_, h.lendRow d⟩
 fewer := qIQ fun e r' he => (vH he).2
 apart := ⟨fun e r' he y hy hy' => by obtain ⟨hn, he⟩ := vH he; exact h.rsep e d r' r he hd hn y hy hy',
  fun b x hx => by obtain ⟨y, hy, _⟩ := qM (st := st) hx; exact h.rb d r b y hd hy, fun y hy => h.rF d r hd y hy⟩
 src := fun y hy => .inl ⟨d, r, hd, hy⟩
theorem vL.give {o : Nat -> Prop} (h : Rep φ (ρ.onW o) st a w) {d : Nat} {r : Row} (hd : qO d st.rows = some r) : vL φ ρ st (st.dropRow d) a w (ρ.ft d) where
 rep := ⟨_, h.dropRow d⟩
 fewer := ⟨fun e r' he => (vH (l := st.rows) he).2, fun b x hx => by obtain ⟨y, hy, _⟩ := qM (st := st) hx; exact ⟨y, hy⟩⟩
 apart := (h.take hd).offW.offW
 src := fun y hy => .inl ⟨d, r, hd, hy⟩
theorem yD {o0 : Nat -> Prop} {F : Nat -> Prop} (hF : ∀ y, ρ.F y -> F y) : ∀ {cs cs' : List CV} {vs : List Value} {st st' : St} {o : Nat -> Prop}, Rep φ (ρ.onW o) st a w -> jN (CVR (ρ.onW o0) w) cs vs -> zI st cs = some (cs', st') ->
  ∃ B, vL φ ρ st st' a w B /\ Sep (BC0 F w) cs' B vs /\ ∀ y, B y -> ∃ d r, qO d st.rows = some r /\ ρ.ft d y
 | [], cs', [], st, st', o, h, _, he => by
  simp only [zI, Option.some.injEq, Prod.mk.injEq] at he
  obtain ⟨rfl, rfl⟩ := he
  exact ⟨_, vL.none h, trivial, fun _ h => h.elim⟩
 | c :: cs, cs', v :: vs, st, st', o, h, ha, he => by
  have plain : c.plain = true -> ∀ {ds : List CV}, zI st cs = some (ds, st') -> cs' = c :: ds -> ∃ B, vL φ ρ st st' a w B /\ Sep (BC0 F w) cs' B (v :: vs) /\ ∀ y, B y -> ∃ d r, qO d st.rows = some r /\ ρ.ft d y := by
   intro hp ds hds e
   subst e
   obtain ⟨B, t1, s1, r1⟩ := yD hF h ha.2 hds
   exact ⟨B, t1, ⟨fun _ => False, B, fun _ h => h.elim, fun _ h => h, qAE (ρ := ρ.onW o0) hp hF ha.1, s1⟩, r1⟩
  cases c with
  | own d =>
   simp only [zI] at he
   split at he
   ·rename_i r hr
    split at he
    ·rename_i ds st2 h2
     simp only [Option.some.injEq, Prod.mk.injEq] at he
     obtain ⟨rfl, rfl⟩ := he
     have t1 := vL.lend h (qI hr)
     obtain ⟨o1, q1⟩ := t1.rep
     obtain ⟨B, t2, s2, r2⟩ := yD hF q1 ha.2 h2
     obtain ⟨t3, d3⟩ := t1.trans t2
     refine ⟨_, t3, ⟨ρ.ft d, B, fun y hy => ⟨.inl hy, d3 y hy⟩, fun y hy => .inr hy, ?_, s2⟩, fun y hy => hy.elim (fun hy => ⟨d, r, qI hr, hy⟩) fun hy => ?_⟩
     ·rw [show v = ρ.val d from ha.1.1]
      exact qGM h hr hF
     ·obtain ⟨e, r', he, hf⟩ := r2 y hy
      exact ⟨e, r', (vH he).2, hf⟩
    ·cases he
   ·cases he
  | emp e t =>
   simp only [zI] at he
   split at he
   ·rename_i ds st2 h2
    simp only [Option.some.injEq, Prod.mk.injEq] at he
    obtain ⟨rfl, rfl⟩ := he
    obtain ⟨B, t1, s1, r1⟩ := yD hF h ha.2 h2
    exact ⟨B, t1, ⟨fun _ => False, B, fun _ h => h.elim, fun _ h => h, qGY ha.1, s1⟩, r1⟩
   ·cases he
  | int k n =>
   simp only [zI] at he
   split at he
   ·rename_i ds st2 h2; simp only [Option.some.injEq, Prod.mk.injEq] at he; obtain ⟨rfl, rfl⟩ := he; exact plain rfl h2 rfl
   ·cases he
  | bool b =>
   simp only [zI] at he
   split at he
   ·rename_i ds st2 h2; simp only [Option.some.injEq, Prod.mk.injEq] at he; obtain ⟨rfl, rfl⟩ := he; exact plain rfl h2 rfl
   ·cases he
  | str s =>
   simp only [zI] at he
   split at he
   ·rename_i ds st2 h2; simp only [Option.some.injEq, Prod.mk.injEq] at he; obtain ⟨rfl, rfl⟩ := he; exact plain rfl h2 rfl
   ·cases he
  | dat e t l =>
   simp only [zI] at he
   split at he
   ·rename_i ds st2 h2; simp only [Option.some.injEq, Prod.mk.injEq] at he; obtain ⟨rfl, rfl⟩ := he; exact plain rfl h2 rfl
   ·cases he
  | pdat e t x off =>
   simp only [zI] at he
   split at he
   ·rename_i ds st2 h2; simp only [Option.some.injEq, Prod.mk.injEq] at he; obtain ⟨rfl, rfl⟩ := he; exact plain rfl h2 rfl
   ·cases he
  | _ => simp [zI] at he
def qDz (ρ : Env) (w : World) (B : Nat -> Prop) : qAJ -> (Nat -> Prop) -> Value -> Prop
 | .keep, _, _ => True
 | .row d r, W, v => v = ρ.val d /\ ρ.ty d = r.t
 | .nest d i off r n, W, v => ρ.ty d = r.t /\ r.hole = none /\ (∃ b n c, qAu (ρ.val d) b n c) /\ ∀ (F' : Nat -> Prop) (w' : World) (r' : Row) (Bx' : Nat -> Prop) (x' : r.t.T), (∀ y, ρ.F y -> F' y) -> qG ρ.F w w' -> qG (fun y => W y /\ ¬ B y) w w' ->
   qN F' w' (.sl r'.e r'.t) (r.m - 1) r'.l Bx' [v] -> (∀ y, Bx' y -> ¬ (W y /\ ¬ B y)) -> r.t.slSet (nth r.t r.l i) off r'.e r'.t r'.l = some x' -> qN F' w' (.sl r.e r.t) r.m (r.l.set i x') (fun y => (W y /\ ¬ B y) \/ Bx' y) [ρ.val d]
 | .box b x, W, v => v = .pointer (some ⟨ρ.blk b, 0, none⟩) /\ x.ro = false
theorem vT {B B' : Nat -> Prop} {l : qAJ} {W : Nat -> Prop} {v : Value} (hB : ∀ y, W y -> (B y ↔ B' y)) (h : qDz ρ w B l W v) : qDz ρ w B' l W v := by
 have e : (fun y => W y /\ ¬ B y) = fun y => W y /\ ¬ B' y := funext fun y => propext ⟨fun h => ⟨h.1, fun hb => h.2 ((hB y h.1).2 hb)⟩, fun h => ⟨h.1, fun hb => h.2 ((hB y h.1).1 hb)⟩⟩
 have e2 : ∀ y, (W y /\ ¬ B y) ↔ (W y /\ ¬ B' y) := fun y => by rw [show (W y /\ ¬ B y) = (fun y => W y /\ ¬ B y) y from rfl, e]
 cases l with
 | nest d i off r n =>
  obtain ⟨h1, h2, h3, h4⟩ := h
  refine ⟨h1, h2, h3, fun F' w' r' Bx' x' q1 q2 q3 q4 q5 q6 => ?_⟩
  have := h4 F' w' r' Bx' x' q1 q2 (by rw [e]; exact q3) q4 (fun y hy hh => q5 y hy ((e2 y).1 hh)) q6
  simp only [e2] at this
  exact this
 | _ => exact h
theorem qLA {o0 : Nat -> Prop} {F : Nat -> Prop} (hF : ∀ y, ρ.F y -> F y) {c c' : CV} {v : Value} {st' : St} {l : qAJ} {o : Nat -> Prop} (h : Rep φ (ρ.onW o) st a w) (hc : CVR (ρ.onW o0) w c v) (he : qBt st c = some (c', l, st')) :
  ∃ W B, (∀ y, B y -> W y) /\ vL φ ρ st st' a w W /\ BC F w c' B v /\ qDz ρ w B l W v := by
 have plain : c.plain = true -> c' = c -> l = .keep -> st' = st -> ∃ W B, (∀ y, B y -> W y) /\ vL φ ρ st st' a w W /\ BC F w c' B v /\ qDz ρ w B l W v := by
  rintro hp rfl rfl rfl
  exact ⟨_, _, fun _ h => h, vL.none h, kZ (qAE (ρ := ρ.onW o0) hp hF hc), trivial⟩
 cases c with
 | own d =>
  simp only [qBt] at he
  split at he
  ·rename_i r hr
   simp only [Option.some.injEq, Prod.mk.injEq] at he
   obtain ⟨rfl, rfl, rfl⟩ := he
   have hv : v = ρ.val d := hc.1
   subst hv
   exact ⟨ρ.ft d, ρ.ft d, fun _ h => h, vL.lend h (qI hr), kZ (qGM h hr hF), rfl, (h.rows d r (qI hr)).2.1⟩
  ·cases he
 | nref d i off =>
  simp only [qBt] at he
  split at he
  ·rename_i r hr
   split at he
   ·cases he
   ·rename_i hm
    split at he
    ·rename_i s hs
     simp only [Option.some.injEq, Prod.mk.injEq] at he
     obtain ⟨rfl, rfl, rfl⟩ := he
     obtain ⟨⟨_, b, n, c, h1, h2, h3⟩, _, _⟩ := (hc : zP (ρ.onW o0) w (.nref d i off) v)
     obtain ⟨p1, p2, p3, p4⟩ := h.rows d r (qI hr)
     obtain ⟨M, hM⟩ : ∃ M, r.m = M + 2 := ⟨r.m - 2, by omega⟩
     have p3 := kX.whole (qJ hr) p3
     rw [hM] at p3
     have h1' : qAu (ρ.val d) b n c := h1
     have p3' : qN ρ.F w (.sl r.e r.t) (M + 1 + 1) r.l (ρ.ft d) [ρ.val d] := p3
     obtain ⟨Bx, v', q1, q2, q3, q4⟩ := qJt p3' h1' h2 (show r.t.slAt (nth r.t r.l i) off = some ⟨s.1, s.2.1, s.2.2⟩ from hs)
     have ht : (ρ.onW o0).ty d = r.t := p2
     rw [ht, q2] at h3
     simp only [Option.some.injEq] at h3
     subst h3
     refine ⟨ρ.ft d, Bx, q1, vL.lend h (qI hr), kZ ⟨rfl, ?_, vO (n := M + 1) q3 (by omega)⟩, p2, qJ hr, ⟨b, n, c, h1'⟩, ?_⟩
     ·show qN F w (.sl s.1 s.2.1) (r.m - 1) s.2.2 Bx [v']
      rw [show r.m - 1 = M + 1 by omega]
      exact jD hF (qG.refl _ _) (qG.refl _ _) q3
     ·intro F' w' r' Bx' x' k1 k2 k3 k4 k5 k6
      rw [show r.m - 1 = M + 1 by omega] at k4
      rw [hM]
      exact q4 F' w' r'.e r'.t r'.l Bx' x' k1 k2 k3 k4 k5 k6
    ·cases he
  ·cases he
 | pbox b off =>
  cases off with
  | succ off => simp [qBt] at he
  | zero =>
   simp only [qBt] at he
   split at he
   ·rename_i x hx
    split at he
    ·cases he
    ·rename_i hro
     split at he
     ·rename_i cs st1 h1
      simp only [Option.some.injEq, Prod.mk.injEq] at he
      obtain ⟨rfl, rfl, rfl⟩ := he
      obtain ⟨arr, fr, k1, k2, k3⟩ := h.cellsBox hx
      have hx := (wV hx).1
      obtain ⟨B, t1, s1, r1⟩ := yD hF h k3 h1
      obtain ⟨o1, q1⟩ := t1.rep
      have hro' : x.ro = false := by simpa using hro
      have hnb : ¬ B (ρ.blk b) := fun hb => by
       obtain ⟨d, r, hd, hf⟩ := r1 _ hb
       exact h.rb d r b x hd hx hf
      have hlt : ρ.blk b < w.heap.size := by
       have k1' : w.heap[ρ.blk b]? = some (.cells arr x.e fr) := k1
       rcases Nat.lt_or_ge (ρ.blk b) w.heap.size with h' | h'
       ·exact h'
       ·simp [Array.getElem?_eq_none h'] at k1'
      have hf2 : qDn st1 { st1 with boxes := del b st1.boxes } := ⟨fun _ _ h => h, fun b' x' hx' => ⟨x', (vH hx').2⟩⟩
      refine ⟨fun y => y = ρ.blk b \/ B y, fun y => y = ρ.blk b \/ B y, fun _ h => h, ⟨⟨o1, ?_⟩, t1.fewer.trans hf2, ?_, ?_⟩, ?_, ?_, hro'⟩
      ·exact q1.less q1.on (fun _ _ h => h) (fun _ _ h => h) (fun b' x' hx' => (vH hx').2) (fun _ h => h) (fun _ h => h)
      ·refine qL.or ⟨fun d r hd y hy e => ?_, fun b' x' hx' e => ?_, fun y hy => ?_⟩ (t1.apart.fewer hf2)
       ·subst e; exact h.rb d r b x (t1.fewer.rows d r hd) hx hy
       ·obtain ⟨hn, hx'⟩ := vH hx'
        obtain ⟨x'', hx''⟩ := t1.fewer.boxes b' x' hx'
        exact h.bsep b' b x'' x hx'' hx hn e
       ·subst hy; exact ⟨(h.bF b x hx).1 hro', hlt, (h.bF b x hx).2⟩
      ·intro y hy
       rcases hy with rfl | hy
       ·exact .inr ⟨b, x, hx, rfl⟩
       ·exact t1.src y hy
      ·rw [show v = .pointer (some ⟨ρ.blk b, 0, none⟩) from hc]
       exact ⟨ρ.blk b, arr, fr, B, rfl, k1, k2, .inl rfl, fun y hy => ⟨.inr hy, by rintro rfl; exact hnb hy⟩, s1⟩
      ·exact hc
     ·cases he
   ·cases he
 | emp e t =>
  simp only [qBt, Option.some.injEq, Prod.mk.injEq] at he
  obtain ⟨rfl, rfl, rfl⟩ := he
  exact ⟨_, _, fun _ h => h, vL.none h, kZ (qGY hc), trivial⟩
 | int k n => simp only [qBt, Option.some.injEq, Prod.mk.injEq] at he; obtain ⟨rfl, rfl, rfl⟩ := he; exact plain rfl rfl rfl rfl
 | bool b => simp only [qBt, Option.some.injEq, Prod.mk.injEq] at he; obtain ⟨rfl, rfl, rfl⟩ := he; exact plain rfl rfl rfl rfl
 | str s => simp only [qBt, Option.some.injEq, Prod.mk.injEq] at he; obtain ⟨rfl, rfl, rfl⟩ := he; exact plain rfl rfl rfl rfl
 | dat e t l => simp only [qBt, Option.some.injEq, Prod.mk.injEq] at he; obtain ⟨rfl, rfl, rfl⟩ := he; exact plain rfl rfl rfl rfl
 | pdat e t x off => simp only [qBt, Option.some.injEq, Prod.mk.injEq] at he; obtain ⟨rfl, rfl, rfl⟩ := he; exact plain rfl rfl rfl rfl
 | _ => simp [qBt] at he
theorem qCT {o0 : Nat -> Prop} {F : Nat -> Prop} (hF : ∀ y, ρ.F y -> F y) : ∀ {cs cs' : List CV} {vs : List Value} {st st' : St} {ls : List qAJ} {o : Nat -> Prop}, Rep φ (ρ.onW o) st a w -> jN (CVR (ρ.onW o0) w) cs vs -> qA1 st cs = some (cs', ls, st') ->
  ∃ W B, (∀ y, B y -> W y) /\ vL φ ρ st st' a w W /\ Sep (BC F w) cs' B vs /\ Sep (qDz ρ w B) ls W vs
 | [], cs', [], st, st', ls, o, h, _, he => by
  simp only [qA1, Option.some.injEq, Prod.mk.injEq] at he
  obtain ⟨rfl, rfl, rfl⟩ := he
  exact ⟨_, _, fun _ h => h, vL.none h, trivial, trivial⟩
 | c :: cs, cs', v :: vs, st, st', ls, o, h, ha, he => by
  simp only [qA1] at he
  split at he
  ·rename_i y l st1 h1
   split at he
   ·rename_i ys ls2 st2 h2
    simp only [Option.some.injEq, Prod.mk.injEq] at he
    obtain ⟨rfl, rfl, rfl⟩ := he
    obtain ⟨W1, B1, i1, t1, c1, l1⟩ := qLA hF h ha.1 h1
    obtain ⟨o1, q1⟩ := t1.rep
    obtain ⟨W2, B2, i2, t2, c2, l2⟩ := qCT hF q1 ha.2 h2
    obtain ⟨t3, d3⟩ := t1.trans t2
    refine ⟨_, fun y => B1 y \/ B2 y, fun y hy => hy.imp (i1 y) (i2 y), t3, ⟨B1, B2, fun y hy => ⟨.inl hy, fun hy' => d3 y (i1 y hy) (i2 y hy')⟩, fun y hy => .inr hy, c1, c2⟩,
     ⟨W1, W2, fun y hy => ⟨.inl hy, d3 y hy⟩, fun y hy => .inr hy, vT (fun y hy => ⟨.inl, fun hh => hh.resolve_right fun hb => d3 y hy (i2 y hb)⟩) l1, l2.imp fun l C v hC hl => vT (fun y hy => ⟨.inr, fun hh => hh.resolve_left fun hb => d3 y (i1 y hb) (hC y hy)⟩) hl⟩⟩
   ·cases he
  ·cases he
theorem qFZ {o0 : Nat -> Prop} {F : Nat -> Prop} (hF : ∀ y, ρ.F y -> F y) : ∀ {cs cs' : List CV} {vs : List Value} {st st' : St} {o : Nat -> Prop}, Rep φ (ρ.onW o) st a w -> jN (CVR (ρ.onW o0) w) cs vs -> qBW st cs = some (cs', st') ->
  ∃ B, vL φ ρ st st' a w B /\ Sep (BC0 F w) cs' B vs
 | [], cs', [], st, st', o, h, _, he => by
  simp only [qBW, Option.some.injEq, Prod.mk.injEq] at he
  obtain ⟨rfl, rfl⟩ := he
  exact ⟨_, vL.none h, trivial⟩
 | c :: cs, cs', v :: vs, st, st', o, h, ha, he => by
  simp only [qBW] at he
  split at he
  ·rename_i y st1 h1
   split at he
   ·rename_i ys st2 h2
    simp only [Option.some.injEq, Prod.mk.injEq] at he
    obtain ⟨rfl, rfl⟩ := he
    have key : ∃ B, vL φ ρ st st1 a w B /\ BC0 F w y B v := by
     have plain : c.plain = true -> y = c -> st1 = st -> ∃ B, vL φ ρ st st1 a w B /\ BC0 F w y B v := by
      rintro hp rfl rfl
      exact ⟨_, vL.none h, qAE (ρ := ρ.onW o0) hp hF ha.1⟩
     cases c with
     | own d =>
      simp only [qEE] at h1
      split at h1
      ·rename_i r hr
       simp only [Option.some.injEq, Prod.mk.injEq] at h1
       obtain ⟨rfl, rfl⟩ := h1
       refine ⟨ρ.ft d, vL.give h (qI hr), ?_⟩
       rw [show v = ρ.val d from ha.1.1]
       exact qGM h hr hF
      ·cases h1
     | emp e t =>
      simp only [qEE, Option.some.injEq, Prod.mk.injEq] at h1
      obtain ⟨rfl, rfl⟩ := h1
      exact ⟨_, vL.none h, qGY ha.1⟩
     | int k n => simp only [qEE, Option.some.injEq, Prod.mk.injEq] at h1; obtain ⟨rfl, rfl⟩ := h1; exact plain rfl rfl rfl
     | bool b => simp only [qEE, Option.some.injEq, Prod.mk.injEq] at h1; obtain ⟨rfl, rfl⟩ := h1; exact plain rfl rfl rfl
     | str s => simp only [qEE, Option.some.injEq, Prod.mk.injEq] at h1; obtain ⟨rfl, rfl⟩ := h1; exact plain rfl rfl rfl
     | dat e t l => simp only [qEE, Option.some.injEq, Prod.mk.injEq] at h1; obtain ⟨rfl, rfl⟩ := h1; exact plain rfl rfl rfl
     | pdat e t x off => simp only [qEE, Option.some.injEq, Prod.mk.injEq] at h1; obtain ⟨rfl, rfl⟩ := h1; exact plain rfl rfl rfl
     | _ => simp [qEE] at h1
    obtain ⟨B1, t1, c1⟩ := key
    obtain ⟨o1, q1⟩ := t1.rep
    obtain ⟨B2, t2, c2⟩ := qFZ hF q1 ha.2 h2
    obtain ⟨t3, d3⟩ := t1.trans t2
    exact ⟨_, t3, B1, B2, fun y hy => ⟨.inl hy, d3 y hy⟩, fun y hy => .inr hy, c1, c2⟩
   ·cases he
  ·cases he
end
theorem qHR {f : CV -> Rd3 CV} : ∀ {cs cs' : List CV} {ds : List (Nat × Nat)} {bs : List Nat}, qAi f cs = some (cs', ds, bs) -> ∀ c' ∈ cs', ∃ c ∈ cs, ∃ ds' bs', f c = some (c', ds', bs')
 | [], cs', ds, bs, h, c', hc => by simp only [qAi, Option.some.injEq, Prod.mk.injEq] at h; obtain ⟨rfl, _⟩ := h; cases hc
 | c :: cs, cs', ds, bs, h, c', hc => by
  simp only [qAi] at h
  split at h
  ·rename_i y ds1 bs1 hy
   split at h
   ·rename_i ys ds2 bs2 hys
    simp only [Option.some.injEq, Prod.mk.injEq] at h
    obtain ⟨rfl, rfl, rfl⟩ := h
    rcases List.mem_cons.1 hc with rfl | hc
    ·exact ⟨c, List.mem_cons_self, ds1, bs1, hy⟩
    ·obtain ⟨x, hx, q⟩ := qHR hys c' hc
     exact ⟨x, List.mem_cons_of_mem _ hx, q⟩
   ·cases h
  ·cases h
theorem qFO {f : CV -> Rd3 CV} : ∀ {cs cs' : List CV} {ds : List (Nat × Nat)} {bs : List Nat}, qAi f cs = some (cs', ds, bs) -> ∀ c ∈ cs, ∃ c' ds' bs', f c = some (c', ds', bs')
 | [], cs', ds, bs, h, c, hc => by cases hc
 | c :: cs, cs', ds, bs, h, x, hx => by
  simp only [qAi] at h
  split at h
  ·rename_i y ds1 bs1 hy
   split at h
   ·rename_i ys ds2 bs2 hys
    rcases List.mem_cons.1 hx with rfl | hx
    ·exact ⟨y, ds1, bs1, hy⟩
    ·exact qFO hys x hx
   ·cases h
  ·cases h
theorem qDN {st : St} {n : Nat} {c c' : CV} {ds : List (Nat × Nat)} {bs : List Nat} (h : rdC st n c = some (c', ds, bs)) (hn : ∀ f sh k cs, c ≠ .fn f sh k cs) : c'.plain0 = true := by
 cases n with
 | zero => simp [rdC] at h
 | succ n =>
  cases c with
  | fn f sh k cs => exact absurd rfl (hn _ _ _ _)
  | undef => simp [rdC] at h
  | row _ => simp [rdC] at h
  | boxr _ _ => simp [rdC] at h
  | pbox b off =>
   simp only [rdC] at h
   repeat' split at h
   all_goals first
    | (cases h; done)
    | (simp only [Option.some.injEq, Prod.mk.injEq] at h; obtain ⟨rfl, _⟩ := h; rfl)
  | _ =>
   simp only [rdC] at h
   repeat' split at h
   all_goals first
    | (cases h; done)
    | (simp only [Option.some.injEq, Prod.mk.injEq] at h; obtain ⟨rfl, _⟩ := h; rfl)
theorem Shaped.mem {R : CV -> Value -> Prop} : ∀ {sh : List (Bool × Nat)} {cs : List CV} {vs : List Value}, Shaped R sh cs vs -> ∀ c ∈ cs, ∃ v, R c v
 | [], cs, vs, h, c, hc => by obtain ⟨rfl, _⟩ := (by simpa [Shaped] using h : cs = [] /\ vs = []); cases hc
 | (true, k) :: sh, cs, [], h, c, hc => by simp [Shaped] at h
 | (true, k) :: sh, cs, v :: vs, h, c, hc => by
  obtain ⟨arr, e, hk, h1, h2⟩ := h
  rw [<- List.take_append_drop k cs] at hc
  rcases List.mem_append.1 hc with hc | hc
  ·obtain ⟨i, hi⟩ := List.mem_iff_getElem?.1 hc
   obtain ⟨b, _, hb⟩ := h1.get hi
   exact ⟨b, hb⟩
  ·exact Shaped.mem h2 c hc
 | (false, _) :: sh, [], vs, h, c, hc => by cases hc
 | (false, _) :: sh, x :: cs, [], h, c, hc => by simp [Shaped] at h
 | (false, _) :: sh, x :: cs, v :: vs, h, c, hc => by
  rcases List.mem_cons.1 hc with rfl | hc
  ·exact ⟨v, h.1⟩
  ·exact Shaped.mem h.2 c hc
section
variable {φ : Fix} {ρ : Env} {st : St} {a : Act} {w : World}
theorem qJy {n : Nat} {c c' : CV} {v : Value} {ds : List (Nat × Nat)} {bs : List Nat} (hc : CVR ρ w c v) (h : rdC st n c = some (c', ds, bs)) : c'.plain = true := by
 by_cases hf : ∃ f sh k cs, c = .fn f sh k cs
 ·obtain ⟨f, sh, k, cs, rfl⟩ := hf
  cases n with
  | zero => simp [rdC] at h
  | succ n =>
   simp only [rdC] at h
   split at h
   ·rename_i ys ds1 bs1 hy
    simp only [Option.some.injEq, Prod.mk.injEq] at h
    obtain ⟨rfl, _⟩ := h
    obtain ⟨first, caps, _, _, hs⟩ := hc
    simp only [CV.plain, List.all_eq_true]
    intro y hy'
    obtain ⟨x, hx, d', b', hr⟩ := qHR hy y hy'
    obtain ⟨u, hu⟩ := hs.mem x hx
    exact qDN hr (qHl hu)
   ·cases h
 ·have hn : ∀ f sh k cs, c ≠ .fn f sh k cs := fun f sh k cs e => hf ⟨f, sh, k, cs, e⟩
  have := qDN h hn
  cases c' <;> first | exact this | simp [CV.plain0] at this
theorem qMc : ∀ {n : Nat} {c c' : CV} {ds : List (Nat × Nat)} {bs : List Nat}, rdC st n c = some (c', ds, bs) -> ∀ d, c.nested d = true -> ∃ r, qO d st.rows = some r
 | 0, c, c', ds, bs, h, d, hd => by simp [rdC] at h
 | n + 1, c, c', ds, bs, h, d, hd => by
  cases c <;> simp only [CV.nested, Bool.false_eq_true, beq_iff_eq] at hd
  ·subst hd
   simp only [rdC, xC] at h
   split at h
   ·rename_i s hs
    split at hs
    ·rename_i r hr; exact ⟨r, qI hr⟩
    ·cases hs
   ·cases h
  ·subst hd
   simp only [rdC, xC] at h
   split at h
   ·rename_i s hs
    split at hs
    ·rename_i r hr; exact ⟨r, qI hr⟩
    ·cases hs
   ·cases h
theorem qMJ {n : Nat} {c c' : CV} {ds : List (Nat × Nat)} {bs : List Nat} (h : rdC st n c = some (c', ds, bs)) : ∀ d, c.says (CV.nested d) = true -> ∃ r, qO d st.rows = some r := by
 intro d hd
 unfold CV.says at hd
 rw [Bool.or_eq_true] at hd
 rcases hd with hd | hd
 ·exact qMc h d hd
 ·cases c with
  | fn f sh k cs =>
   simp only [List.any_eq_true] at hd
   obtain ⟨x, hx, hd⟩ := hd
   cases n with
   | zero => simp [rdC] at h
   | succ n =>
    simp only [rdC] at h
    split at h
    ·rename_i ys ds1 bs1 hy
     obtain ⟨x', d', b', hr⟩ := qFO hy x hx
     exact qMc hr d hd
    ·cases h
  | _ => simp at hd
def St.has (st : St) (d : Nat) : Prop := ∃ r, qO d st.rows = some r
theorem Rep.onAll {o : Nat -> Prop} (h : Rep φ (ρ.onW o) st a w) : Rep φ (ρ.onW st.has) st a w := by
 have m : ∀ c : CV, jS (ρ.onW o) (ρ.onW st.has) w w c := fun c => ⟨fun _ h => h, qG.refl _ _, fun _ _ => ⟨rfl, rfl⟩, fun d _ ho => ⟨h.on d ho, fun _ _ _ _ _ => qG.refl _ _⟩, fun _ _ => rfl⟩
 exact { h with
  on := fun d hd => hd
  slots := fun s v hv => ⟨(h.slots s v hv).1, kI (fun c _ => m c) (h.slots s v hv).2⟩
  boxes := fun b x hx => by obtain ⟨arr, fr, h1, h2, h3⟩ := h.boxes b x hx; exact ⟨arr, fr, h1, h2, h3.imp fun _ _ => jU (m _)⟩
  rows := h.rows, rsep := h.rsep, rF := h.rF, rb := h.rb, bsep := h.bsep, bF := h.bF, Fbd := h.Fbd, F0 := h.F0, lentR := h.lentR, lentB := h.lentB }
theorem qK6 {o0 : Nat -> Prop} {n : Nat} {c c' : CV} {v : Value} {ds : List (Nat × Nat)} {bs : List Nat} (hc : CVR (ρ.onW o0) w c v) (h : rdC st n c = some (c', ds, bs)) : CVR (ρ.onW st.has) w c v :=
 jU (ρ := ρ.onW o0) (ρ' := ρ.onW st.has) ⟨fun _ h => h, qG.refl _ _, fun _ _ => ⟨rfl, rfl⟩, fun d hd _ => ⟨qMJ h d hd, fun _ _ _ _ _ => qG.refl _ _⟩, fun _ _ => rfl⟩ hc
theorem qPA {o : Nat -> Prop} {ds : List (Nat × Nat)} {bs : List Nat} {y : Nat} : xG (ρ.onW o) ds bs y ↔ xG ρ ds bs y := Iff.rfl
theorem qJz {o o0 : Nat -> Prop} {F G : Nat -> Prop} {n : Nat} {c c' : CV} {v : Value} {ds : List (Nat × Nat)} {bs : List Nat} (h : Rep φ (ρ.onW o) st a w) (hc : CVR (ρ.onW o0) w c v) (hr : rdC st n c = some (c', ds, bs)) (hF : ∀ y, xG ρ ds bs y -> F y) :
  BC0 F w c' G v :=
 qAE (ρ := (ρ.onW st.has).withF (xG (ρ.onW st.has) ds bs)) (qJy hc hr) hF (qFA h.onAll n (qK6 hc hr) hr).1
theorem qHS {o o0 : Nat -> Prop} {F G : Nat -> Prop} {n : Nat} (h : Rep φ (ρ.onW o) st a w) : ∀ {cs cs' : List CV} {vs : List Value} {ds : List (Nat × Nat)} {bs : List Nat}, jN (CVR (ρ.onW o0) w) cs vs -> qAi (rdC st n) cs = some (cs', ds, bs) ->
  (∀ y, xG ρ ds bs y -> F y) -> Sep (BC0 F w) cs' G vs
 | [], cs', [], ds, bs, _, hr, _ => by simp only [qAi, Option.some.injEq, Prod.mk.injEq] at hr; obtain ⟨rfl, _⟩ := hr; trivial
 | c :: cs, cs', v :: vs, ds, bs, ha, hr, hF => by
  simp only [qAi] at hr
  split at hr
  ·rename_i y ds1 bs1 hy
   split at hr
   ·rename_i ys ds2 bs2 hys
    simp only [Option.some.injEq, Prod.mk.injEq] at hr
    obtain ⟨rfl, rfl, rfl⟩ := hr
    exact ⟨fun _ => False, G, fun _ h => h.elim, fun _ h => h, qJz h ha.1 hy fun y hy => hF y (qAS y hy), qHS h ha.2 hys fun y hy => hF y (kO y hy)⟩
   ·cases hr
  ·cases hr
theorem qNw {o o0 : Nat -> Prop} {F G : Nat -> Prop} {s s' : SV} {v : Value} {ds : List (Nat × Nat)} {bs : List Nat} (h : Rep φ (ρ.onW o) st a w) (hs : SVR (ρ.onW o0) w s v) (hr : rdS st s = some (s', ds, bs)) (hF : ∀ y, xG ρ ds bs y -> F y) : BV F w s' G v := by
 cases s with
 | c x =>
  simp only [rdS] at hr
  split at hr
  ·rename_i y ds' bs' hy
   simp only [Option.some.injEq, Prod.mk.injEq] at hr; obtain ⟨rfl, rfl, rfl⟩ := hr
   exact kZ (qJz h hs hy hF)
  ·cases hr
 | agg xs =>
  simp only [rdS] at hr
  split at hr
  ·rename_i ys ds' bs' hy
   simp only [Option.some.injEq, Prod.mk.injEq] at hr; obtain ⟨rfl, rfl, rfl⟩ := hr
   obtain ⟨arr, e, ha⟩ := hs
   exact ⟨arr, e, qHS h ha hy hF⟩
  ·cases hr
 | _ => simp [rdS] at hr
theorem qLu {c : CV} (h : c.noBox = true) : ∀ e ds, c ≠ .boxr e ds := by
 rintro e ds rfl; cases h
theorem qBI {F : Nat -> Prop} {B : Nat -> Prop} {s : SV} {v : Value} {cs cs' : List CV} (hs : SVR ρ w s v) (hc : s.cells? = some cs) (h : Sep (BC F w) cs' B v.cells.toList) (hl : cs'.length = cs.length) (hb : (s.withCells cs').flat = true) : BV F w (s.withCells cs') B v := by
 cases s with
 | c x =>
  simp only [SV.cells?, Option.some.injEq] at hc
  subst hc
  match cs', hl with
  | [y], _ =>
   have hv : v.cells = #[v] := by
    have := xV (ρ := ρ) (w := w) (c := x) (v := v) hs
    cases v <;> simp_all [Value.cells, Value.oneCell']
   rw [hv] at h
   obtain ⟨B1, B2, h1, h2, h3, h4⟩ := h
   show BC F w y B v
   rcases kJ h3 with ⟨e, ds, rfl⟩ | ⟨hn, h0⟩
   ·obtain ⟨b, arr, fr, C, q1, q2, q3, q4, q5, q6⟩ := h3
    exact ⟨b, arr, fr, C, q1, q2, q3, (h1 _ q4).1, fun y hy => ⟨(h1 y (q5 y hy).1).1, (q5 y hy).2⟩, q6⟩
   ·exact kZ (qE0 (fun y hy => (h1 y hy).1) h0)
 | agg xs =>
  obtain ⟨arr, rfl, ha⟩ := hs
  simp only [SV.withCells, SV.flat, Bool.and_eq_true, List.all_eq_true] at hb
  refine ⟨arr, rfl, h.impMem fun c C u hc hC hbc => ?_⟩
  rwa [qPU (qLu (hb.2 c hc))] at hbc
 | _ => simp [SV.cells?] at hc
theorem qDS : ∀ {cs cs' : List CV} {st st' : St} {ls : List qAJ}, qA1 st cs = some (cs', ls, st') -> cs'.length = cs.length
 | [], cs', st, st', ls, h => by simp only [qA1, Option.some.injEq, Prod.mk.injEq] at h; obtain ⟨rfl, _⟩ := h; rfl
 | c :: cs, cs', st, st', ls, h => by
  simp only [qA1] at h
  split at h
  ·split at h
   ·rename_i h2
    simp only [Option.some.injEq, Prod.mk.injEq] at h
    obtain ⟨rfl, _⟩ := h
    simp [qDS h2]
   ·cases h
  ·cases h
theorem qDX : ∀ {cs cs' : List CV} {st st' : St}, qBW st cs = some (cs', st') -> cs'.length = cs.length
 | [], cs', st, st', h => by simp only [qBW, Option.some.injEq, Prod.mk.injEq] at h; obtain ⟨rfl, _⟩ := h; rfl
 | c :: cs, cs', st, st', h => by
  simp only [qBW] at h
  split at h
  ·split at h
   ·rename_i h2
    simp only [Option.some.injEq, Prod.mk.injEq] at h
    obtain ⟨rfl, _⟩ := h
    simp [qDX h2]
   ·cases h
  ·cases h
theorem qAP {R : CV -> Value -> Prop} : ∀ {sh : List (Bool × Nat)} {cs : List CV} {vs : List Value}, sh.all (fun x => !x.1) = true -> Shaped R sh cs vs -> jN R cs vs
 | [], cs, vs, _, h => by
  simp only [Shaped] at h
  obtain ⟨rfl, rfl⟩ := h
  trivial
 | (true, k) :: sh, cs, vs, ha, h => by simp at ha
 | (false, k) :: sh, [], vs, ha, h => by simp [Shaped] at h
 | (false, k) :: sh, c :: cs, [], ha, h => by simp [Shaped] at h
 | (false, k) :: sh, c :: cs, v :: vs, ha, h => ⟨h.1, qAP (by simpa using ha) h.2⟩
theorem vG {o0 : Nat -> Prop} {F : Nat -> Prop} (hF : ∀ y, ρ.F y -> F y) : ∀ {vs : List SV} {ms : List Nat} {xs : List Value} {st : St} {e : Exp} {o : Nat -> Prop}, Rep φ (ρ.onW o) st a w -> jN (SVR (ρ.onW o0) w) vs xs -> jZ st ms vs = some e ->
  (∀ y, xG ρ e.peeks e.peekB y -> F y) -> (∀ v ∈ e.args, v.flat = true) ->
  ∃ W B, (∀ y, B y -> W y) /\ vL φ ρ st e.st a w W /\ Sep (BV F w) e.args B xs /\ Sep (Sep (qDz ρ w B)) e.lent W (vD ms xs)
 | [], ms, [], st, e, o, h, _, he, _, _ => by
  simp only [jZ, Option.some.injEq] at he
  subst he
  exact ⟨_, _, fun _ h => h, vL.none h, trivial, trivial⟩
 | v :: vs, ms, x :: xs, st, e, o, h, ha, he, hs, hfl => by
  simp only [jZ] at he
  split at he
  ·
   rename_i h0
   split at he
   ·rename_i v' ds bs hr
    split at he
    ·rename_i e2 h2
     simp only [Option.some.injEq] at he
     subst he
     obtain ⟨W, B, i1, t1, s1, l1⟩ := vG hF h ha.2 h2 (fun y hy => hs y (kO y hy)) fun u hu => hfl u (List.mem_cons_of_mem _ hu)
     refine ⟨W, B, i1, t1, ⟨fun _ => False, B, fun _ h => h.elim, fun _ h => h, qNw h ha.1 hr fun y hy => hs y (qAS y hy), s1⟩, ?_⟩
     simp only [vD]
     rw [if_neg (by rw [h0]; decide), if_neg (by rw [h0]; decide)]
     exact l1
    ·cases he
   ·cases he
  ·
   rename_i h0
   split at he
   ·rename_i cs hc
    split at he
    ·rename_i cs' ls st1 h1
     split at he
     ·rename_i e2 h2
      simp only [Option.some.injEq] at he
      subst he
      obtain ⟨W1, B1, i1, t1, c1, l1⟩ := qCT hF h (qA8 hc ha.1) h1
      obtain ⟨o1, q1⟩ := t1.rep
      obtain ⟨W2, B2, i2, t2, s2, l2⟩ := vG hF q1 ha.2 h2 hs fun u hu => hfl u (List.mem_cons_of_mem _ hu)
      obtain ⟨t3, d3⟩ := t1.trans t2
      refine ⟨_, fun y => B1 y \/ B2 y, fun y hy => hy.imp (i1 y) (i2 y), t3, ⟨B1, B2, fun y hy => ⟨.inl hy, fun hy' => d3 y (i1 y hy) (i2 y hy')⟩, fun y hy => .inr hy, qBI ha.1 hc c1 (qDS h1) (hfl _ List.mem_cons_self), s2⟩, ?_⟩
      simp only [vD]
      rw [if_pos h0]
      refine ⟨W1, W2, fun y hy => ⟨.inl hy, d3 y hy⟩, fun y hy => .inr hy, l1.imp fun l C v hC hl => vT (fun y hy => ⟨.inl, fun hh => hh.resolve_right fun hb => d3 y (hC y hy) (i2 y hb)⟩) hl, ?_⟩
      exact l2.imp fun l C v hC hl => hl.imp fun l' C' v' hC' hl' => vT (fun y hy => ⟨.inr, fun hh => hh.resolve_left fun hb => d3 y (i1 y hb) (hC y (hC' y hy))⟩) hl'
     ·cases he
    ·cases he
   ·cases he
  ·
   rename_i h0
   split at he
   ·rename_i e0 t0
    split at he
    ·rename_i e2 h2
     simp only [Option.some.injEq] at he
     subst he
     obtain ⟨W, B, i1, t1, s1, l1⟩ := vG hF h ha.2 h2 hs fun u hu => hfl u (List.mem_cons_of_mem _ hu)
     refine ⟨W, B, i1, t1, ⟨fun _ => False, B, fun _ h => h.elim, fun _ h => h, (show BC F w (.emp e0 t0) (fun _ => False) x from kZ (qAE (ρ := ρ.onW o0) (c := .emp e0 t0) rfl hF ha.1)), s1⟩, ?_⟩
     simp only [vD]
     rw [if_neg (by rw [h0]; decide), if_neg (by rw [h0]; decide)]
     exact l1
    ·cases he
   ·cases he
  ·
   rename_i h0
   split at he
   ·rename_i f sh k cs
    split at he
    ·rename_i hsh
     rw [Bool.and_eq_true] at hsh
     split at he
     ·rename_i cs' ls st1 h1
      split at he
      ·rename_i e2 h2
       simp only [Option.some.injEq] at he
       subst he
       obtain ⟨first, caps, v1, v2, v3⟩ := (show CVR (ρ.onW o0) w (.fn f sh k cs) x from ha.1)
       obtain ⟨W1, B1, i1, t1, c1, l1⟩ := qCT hF h ((qAP hsh.1 v3).imp fun _ _ hh => vB hh) h1
       obtain ⟨o1, q1⟩ := t1.rep
       obtain ⟨W2, B2, i2, t2, s2, l2⟩ := vG hF q1 ha.2 h2 hs fun u hu => hfl u (List.mem_cons_of_mem _ hu)
       obtain ⟨t3, d3⟩ := t1.trans t2
       refine ⟨_, fun y => B1 y \/ B2 y, fun y hy => hy.imp (i1 y) (i2 y), t3, ⟨B1, B2, fun y hy => ⟨.inl hy, fun hy' => d3 y (i1 y hy) (i2 y hy')⟩, fun y hy => .inr hy, ⟨first, caps, v1, v2, c1⟩, s2⟩, ?_⟩
       simp only [vD]
       rw [if_neg (by rw [h0]; decide), if_pos h0, v1]
       refine ⟨W1, W2, fun y hy => ⟨.inl hy, d3 y hy⟩, fun y hy => .inr hy, l1.imp fun l C v hC hl => vT (fun y hy => ⟨.inl, fun hh => hh.resolve_right fun hb => d3 y (hC y hy) (i2 y hb)⟩) hl, ?_⟩
       exact l2.imp fun l C v hC hl => hl.imp fun l' C' v' hC' hl' => vT (fun y hy => ⟨.inr, fun hh => hh.resolve_left fun hb => d3 y (i1 y hb) (hC y (hC' y hy))⟩) hl'
      ·cases he
     ·cases he
    ·cases he
   ·cases he
  ·
   rename_i h0 h0' h0'' h0a
   split at he
   ·rename_i cs hc
    split at he
    ·rename_i cs' st1 h1
     split at he
     ·rename_i e2 h2
      simp only [Option.some.injEq] at he
      subst he
      obtain ⟨B1, t1, c1⟩ := qFZ hF h (qA8 hc ha.1) h1
      obtain ⟨o1, q1⟩ := t1.rep
      obtain ⟨W2, B2, i2, t2, s2, l2⟩ := vG hF q1 ha.2 h2 hs fun u hu => hfl u (List.mem_cons_of_mem _ hu)
      obtain ⟨t3, d3⟩ := t1.trans t2
      refine ⟨_, fun y => B1 y \/ B2 y, fun y hy => hy.imp id (i2 y), t3, ⟨B1, B2, fun y hy => ⟨.inl hy, fun hy' => d3 y hy (i2 y hy')⟩, fun y hy => .inr hy, qBI ha.1 hc (c1.imp fun _ _ _ _ => kZ) (qDX h1) (hfl _ List.mem_cons_self), s2⟩, ?_⟩
      simp only [vD]
      rw [if_neg (fun hh => h0' hh), if_neg (fun hh => h0a hh)]
      exact (l2.imp fun l C v hC hl => hl.imp fun l' C' v' hC' hl' => vT (fun y hy => ⟨.inr, fun hh => hh.resolve_left fun hb => d3 y hb (hC y (hC' y hy))⟩) hl').foot fun y hy => .inr hy
     ·cases he
    ·cases he
   ·cases he
end
theorem qK0 {F G : Nat -> Prop} {w : World} : ∀ {t : Ty} {n : Nat} {x : t.T} {B : Nat -> Prop} {vs : List Value}, t.full n = true -> qN F w t n x B vs -> qN G w t n x B vs := by
 intro t
 induction t with
 | int k => intro n x B vs _ h; rw [qN] at h ⊢; exact h
 | bool => intro n x B vs _ h; rw [qN] at h ⊢; exact h
 | str => intro n x B vs _ h; rw [qN] at h ⊢; exact h
 | unit => intro n x B vs _ h; rw [qN] at h ⊢; exact h
 | ptr e t _ => intro n x B vs hf; simp [Ty.full] at hf
 | prod a b iha ihb =>
  intro n x B vs hf h
  simp only [Ty.full, Bool.and_eq_true] at hf
  rw [qN] at h ⊢
  obtain ⟨v1, v2, B1, B2, e, d1, d2, h1, h2⟩ := h
  exact ⟨v1, v2, B1, B2, e, d1, d2, iha hf.1 h1, ihb hf.2 h2⟩
 | sl e t iht =>
  intro n x B vs hf h
  cases n with
  | zero => simp [Ty.full] at hf
  | succ n =>
   simp only [Ty.full] at hf
   rw [qN] at h ⊢
   obtain ⟨v, e1, h⟩ := h
   exact ⟨v, e1, qDi (fun _ _ _ h => iht hf h) (fun _ h => h) h⟩
theorem qCp {F G : Nat -> Prop} {w : World} {c : CV} {B : Nat -> Prop} {v : Value} (hl : c.leads = false) (h : BC0 F w c B v) : BC0 G w c B v := by
 cases c with
 | row r =>
  simp only [CV.leads, Bool.not_eq_false'] at hl
  exact ⟨h.1, qK0 hl h.2.1, h.2.2⟩
 | dat => simp [CV.leads] at hl
 | pdat => simp [CV.leads] at hl
 | fn => simp [CV.leads] at hl
 | boxr => exact (qHn h).elim
 | undef => exact h
 | own => have := h.1; simp [CV.plain, CV.plain0] at this
 | vw => have := h.1; simp [CV.plain, CV.plain0] at this
 | nref => have := h.1; simp [CV.plain, CV.plain0] at this
 | pbox => have := h.1; simp [CV.plain, CV.plain0] at this
 | pelt => have := h.1; simp [CV.plain, CV.plain0] at this
 | pn => have := h.1; simp [CV.plain, CV.plain0] at this
 | _ => exact h
theorem qK8 {F G : Nat -> Prop} {w : World} {c : CV} {B : Nat -> Prop} {v : Value} (hl : c.leads = false) (h : BC F w c B v) : BC G w c B v := by
 rcases kJ h with ⟨e, cs, rfl⟩ | ⟨hn, h⟩
 ·obtain ⟨b, arr, fr, B1, h1, h2, h3, h4, h5, h6⟩ := h
  simp only [CV.leads, List.any_eq_false] at hl
  refine ⟨b, arr, fr, B1, h1, h2, h3, h4, h5, h6.impMem fun c C v hc hC hb => ?_⟩
  have hx := hl c hc
  cases c <;> first | exact (qHn hb).elim | exact qCp rfl hb | exact qCp (Bool.eq_false_iff.2 hx) hb
 ·exact kZ (qCp hl h)
theorem qHm {F G : Nat -> Prop} {w : World} {c : SV} {B : Nat -> Prop} {v : Value} (hl : c.leads1 = false) (h : BV F w c B v) : BV G w c B v := by
 cases c with
 | c x => exact qK8 (c := x) hl h
 | agg xs =>
  obtain ⟨arr, h1, h2⟩ := h
  refine ⟨arr, h1, h2.impMem fun c C v hc hC hb => qCp ?_ hb⟩
  simp only [SV.leads1, List.any_eq_false] at hl
  simpa using hl c hc
 | undef => exact h
 | clo _ _ _ => simp [SV.leads1] at hl
 | tup _ => exact h
theorem qNg {F G : Nat -> Prop} {w : World} {c : SV} {B : Nat -> Prop} {v : Value} (hl : c.leads = false) (h : BR F w c B v) : BR G w c B v := by
 cases c with
 | tup vs =>
  obtain ⟨arr, h1, h2⟩ := h
  refine ⟨arr, h1, h2.impMem fun c C v hc hC hb => qHm ?_ hb⟩
  simp only [SV.leads, List.any_eq_false] at hl
  simpa using hl c hc
 | undef => exact (show False from h).elim
 | clo _ _ _ => simp [SV.leads, SV.leads1] at hl
 | c x => exact qHm (F := F) (G := G) (w := w) (B := B) (v := v) (c := .c x) hl h
 | agg xs => exact qHm (F := F) (G := G) (w := w) (B := B) (v := v) (c := .agg xs) hl h
section
variable {φ : Fix} {ρ : Env} {st : St} {a : Act} {w : World}
def Env.withFt (ρ : Env) (d : Nat) (B : Nat -> Prop) : Env := { ρ with ft := fun e => if e = d then B else ρ.ft e }
theorem Rep.backRow (h : Rep φ ρ st a w) {d : Nat} {r : Row} {B : Nat -> Prop} (hB : qL φ ρ st w B) (h0 : r.hole = none) (hr : qN ρ.F w (.sl r.e r.t) r.m r.l B [ρ.val d]) (ht : ρ.ty d = r.t) (hL : r.l ≠ [] -> ∃ b n c, qAu (ρ.val d) b n c) :
  Rep φ (ρ.withFt d B) { st with rows := put d r st.rows } a w := by
 have m : ∀ c : CV, jS ρ (ρ.withFt d B) w w c := fun c => ⟨fun _ h => h, qG.refl _ _, fun _ _ => ⟨rfl, rfl⟩, fun d _ ho => ⟨ho, fun _ _ _ _ _ => qG.refl _ _⟩, fun _ _ => rfl⟩
 have hlk : ∀ {e re}, qO e (put d r st.rows) = some re -> (e = d /\ re = r) \/ (e ≠ d /\ qO e st.rows = some re) := fun {e re} he => by
  rw [qP] at he
  by_cases hh : e = d
  ·rw [if_pos hh] at he; simp only [Option.some.injEq] at he; exact .inl ⟨hh, he.symm⟩
  ·rw [if_neg hh] at he; exact .inr ⟨hh, he⟩
 have ftd : (ρ.withFt d B).ft d = B := by simp [Env.withFt]
 have fte : ∀ {e}, e ≠ d -> (ρ.withFt d B).ft e = ρ.ft e := fun hn => by simp [Env.withFt, hn]
 exact {
  size := h.size, nodef := h.nodef
  on := fun e he => by
   show ∃ r', qO e (put d r st.rows) = some r'
   rw [qP]
   by_cases hh : e = d
   ·exact ⟨r, by rw [if_pos hh]⟩
   ·rw [if_neg hh]; exact h.on e he
  slots := fun s v hv => ⟨(h.slots s v hv).1, kI (fun c _ => m c) (h.slots s v hv).2⟩
  rows := fun e re he => by
   rcases hlk he with ⟨rfl, rfl⟩ | ⟨hn, he⟩
   ·exact ⟨trivial, ht, by rw [ftd]; exact kX.mk h0 hr, hL⟩
   ·obtain ⟨g1, g2, g3, g4⟩ := h.rows e re he
    exact ⟨g1, g2, by rw [fte hn]; exact g3, g4⟩
  boxes := fun b x hx => by obtain ⟨arr, fr, h1, h2, h3⟩ := h.boxes b x hx; exact ⟨arr, fr, h1, h2, h3.imp fun _ _ => jU (m _)⟩
  rsep := fun e e' r1 r2 h1 h2 hn y hy hy' => by
   rcases hlk h1 with ⟨rfl, rfl⟩ | ⟨n1, k1⟩ <;> rcases hlk h2 with ⟨rfl, rfl⟩ | ⟨n2, k2⟩
   ·exact hn rfl
   ·rw [ftd] at hy; rw [fte n2] at hy'; exact hB.row e' r2 k2 y hy' hy
   ·rw [fte n1] at hy; rw [ftd] at hy'; exact hB.row e r1 k1 y hy hy'
   ·rw [fte n1] at hy; rw [fte n2] at hy'; exact h.rsep e e' r1 r2 k1 k2 hn y hy hy'
  rF := fun e r1 h1 y hy => by
   rcases hlk h1 with ⟨rfl, rfl⟩ | ⟨n1, h1⟩
   ·rw [ftd] at hy; exact hB.here y hy
   ·rw [fte n1] at hy; exact h.rF e r1 h1 y hy
  rb := fun e r1 b x h1 h2 hy => by
   rcases hlk h1 with ⟨rfl, rfl⟩ | ⟨n1, h1⟩
   ·rw [ftd] at hy; exact hB.box b x h2 hy
   ·rw [fte n1] at hy; exact h.rb e r1 b x h1 h2 hy
  bsep := h.bsep, bF := h.bF, Fbd := h.Fbd, F0 := h.F0, grow := h.grow, io := h.io, tab := h.tab, keep := h.keep, lentR := h.lentR, lentB := h.lentB }
theorem qL.backRow {d : Nat} {r : Row} {B Z : Nat -> Prop} (h : qL φ ρ st w Z) (hz : ∀ y, Z y -> ¬ B y) : qL φ (ρ.withFt d B) { st with rows := put d r st.rows } w Z where
 row := fun e re he y hy hy' => by
  simp only [qP] at he
  simp only [Env.withFt] at hy
  by_cases hh : e = d
  ·rw [if_pos hh] at hy; exact hz y hy' hy
  ·rw [if_neg hh] at hy he; exact h.row e re he y hy hy'
 box := h.box
 here := h.here
theorem qL.addRow {d : Nat} {r : Row} {v : Value} {t : Ty} {B Z : Nat -> Prop} (h : qL φ ρ st w Z) (hz : ∀ y, Z y -> ¬ B y) : qL φ (ρ.setRow d v t B) (st.addRow d r) w Z where
 row := fun e re he y hy hy' => by
  simp only [St.addRow, qP] at he
  simp only [Env.setRow] at hy
  by_cases hh : e = d
  ·rw [if_pos hh] at hy; exact hz y hy' hy
  ·rw [if_neg hh] at hy he; exact h.row e re he y hy hy'
 box := fun b x hx => by obtain ⟨y, hy, _⟩ := qM (st := st) hx; exact h.box b y hy
 here := h.here
theorem jS.trans {ρ ρ1 ρ2 : Env} {w : World} {c : CV} (h : jS ρ ρ1 w w c) (h' : jS ρ1 ρ2 w w c) : jS ρ ρ2 w w c :=
 ⟨fun y hy => h'.F y (h.F y hy), qG.refl _ _, fun d hd => ⟨(h'.row d hd).1.trans (h.row d hd).1, (h'.row d hd).2.trans (h.row d hd).2⟩,
  fun d hd ho => ⟨(h'.nest d hd (h.nest d hd ho).1).1, fun _ _ _ _ _ => qG.refl _ _⟩, fun b hb => (h'.box b hb).trans (h.box b hb)⟩
structure qIm (φ : Fix) (ρ ρ' : Env) (st st' : St) (a : Act) (w : World) (Z : Nat -> Prop) (lo hi : Nat) : Prop where
 rep : Rep φ ρ' st' a w
 F : ρ'.F = ρ.F
 blk : ρ'.blk = ρ.blk
 apart : ∀ Z0, qL φ ρ st w Z0 -> (∀ y, Z0 y -> ¬ Z y) -> qL φ ρ' st' w Z0
 val : ∀ d, ¬ (lo <= d /\ d < hi) -> ρ'.val d = ρ.val d /\ ρ'.ty d = ρ.ty d
 moves : ∀ c : CV, c.says (CV.within lo hi) = false -> jS ρ ρ' w w c
theorem qIm.refl (h : Rep φ ρ st a w) (Z : Nat -> Prop) (lo hi : Nat) : qIm φ ρ ρ st st a w Z lo hi :=
 ⟨h, rfl, rfl, fun _ h _ => h, fun _ _ => ⟨rfl, rfl⟩, fun c _ => jS.same (fun S => qG.refl S w) c⟩
theorem qMx {lo hi lo' hi' : Nat} {c : CV} (h1 : lo <= lo') (h2 : hi' <= hi) (h : c.says (CV.within lo hi) = false) : c.says (CV.within lo' hi') = false := by
 rw [Bool.eq_false_iff] at h ⊢
 intro hh
 obtain ⟨d, q1, q2, q3⟩ := jJ.1 hh
 exact h (jJ.2 ⟨d, by omega, by omega, q3⟩)
theorem qIm.trans {ρ1 ρ2 : Env} {st1 st2 : St} {Z1 Z2 Z : Nat -> Prop} {lo hi lo1 hi1 lo2 hi2 : Nat} (h : qIm φ ρ ρ1 st st1 a w Z1 lo1 hi1) (h' : qIm φ ρ1 ρ2 st1 st2 a w Z2 lo2 hi2)
  (z1 : ∀ y, Z1 y -> Z y) (z2 : ∀ y, Z2 y -> Z y) (l1 : lo1 < hi1 -> lo <= lo1 /\ hi1 <= hi) (l2 : lo2 < hi2 -> lo <= lo2 /\ hi2 <= hi) : qIm φ ρ ρ2 st st2 a w Z lo hi where
 rep := h'.rep
 F := h'.F.trans h.F
 blk := h'.blk.trans h.blk
 apart := fun Z0 h0 hz => h'.apart Z0 (h.apart Z0 h0 fun y hy hh => hz y hy (z1 y hh)) fun y hy hh => hz y hy (z2 y hh)
 val := fun d hd => by
  have e1 := h.val d (fun hh => hd (by have := l1 (by omega); omega))
  have e2 := h'.val d (fun hh => hd (by have := l2 (by omega); omega))
  exact ⟨e2.1.trans e1.1, e2.2.trans e1.2⟩
 moves := fun c hc => by
  have k : ∀ {lo' hi' : Nat}, (lo' < hi' -> lo <= lo' /\ hi' <= hi) -> c.says (CV.within lo' hi') = false := fun {lo' hi'} hl => by
   rw [Bool.eq_false_iff] at hc ⊢
   intro hh
   obtain ⟨d, q1, q2, q3⟩ := jJ.1 hh
   have := hl (by omega)
   exact hc (jJ.2 ⟨d, by omega, by omega, q3⟩)
  exact (h.moves c (k l1)).trans (h'.moves c (k l2))
theorem zD {base : Nat} : ∀ {cs : List CV} {vs : List Value} {j : Nat} {ρ : Env} {st : St} {B : Nat -> Prop}, Rep φ ρ st a w -> qL φ ρ st w B -> Sep (BC0 ρ.F w) cs B vs ->
  ∃ ρ', qIm φ ρ ρ' st (qK st base j cs).2 a w B (base + j) (base + j + cs.length) /\ jN (CVR ρ' w) (qK st base j cs).1 vs
 | [], [], j, ρ, st, B, h, _, _ => ⟨ρ, qIm.refl h _ _ _, trivial⟩
 | c :: cs, v :: vs, j, ρ, st, B, h, hB, hs => by
  obtain ⟨B1, B2, d1, d2, h1, h2⟩ := hs
  have plain : (∀ r, c ≠ .row r) -> ∃ ρ', qIm φ ρ ρ' st (qK st base (j + 1) cs).2 a w B (base + j) (base + j + (c :: cs).length) /\ jN (CVR ρ' w) (c :: (qK st base (j + 1) cs).1) (v :: vs) := by
   intro hn
   obtain ⟨ρ', p, q⟩ := zD (base := base) (j := j + 1) h (hB.sub d2) h2
   have hp : c.plain = true /\ CVR (bare ρ.F) w c v := by
    cases c <;> first | exact h1 | exact absurd rfl (hn _)
   refine ⟨ρ', (qIm.refl h (fun _ => False) 0 0).trans p (fun _ h => h.elim) d2 (fun h => by omega) (fun _ => by simp only [List.length_cons]; omega), ?_, q⟩
   exact jU (yT hp.1 (fun y hy => by rw [p.F]; exact hy) (qG.refl _ _)) hp.2
  cases c with
  | row r =>
   simp only [qK]
   obtain ⟨p1, p2, p3⟩ := h1
   have hB1 : qL φ ρ st w B1 := hB.sub fun y hy => (d1 y hy).1
   have hadd := h.addRow (zB.refl w) (d := base + j) (r := r) (v := v) (B := B1) p1 p2 p3 hB1.here (fun e r' _ he y hy => hB1.row e r' he y hy) (fun b x hx => hB1.box b x hx)
   have put1 : qIm φ ρ (ρ.setRow (base + j) v r.t B1) st (st.addRow (base + j) r) a w B1 (base + j) (base + j + 1) :=
    ⟨hadd, rfl, rfl, fun Z0 h0 hz => h0.addRow hz, fun d hd => by
     have : d ≠ base + j := fun e => hd (by omega)
     simp [Env.setRow, this], fun c hc => jS.setRow (fun S => qG.refl S w) (by
      rw [Bool.eq_false_iff] at hc ⊢
      intro hh
      exact hc (jJ.2 ⟨base + j, by omega, by omega, hh⟩))⟩
   obtain ⟨ρ', p, q⟩ := zD (base := base) (j := j + 1) hadd (put1.apart B2 (hB.sub d2) fun y hy hh => (d1 y hh).2 hy) h2
   refine ⟨ρ', put1.trans p (fun y hy => (d1 y hy).1) d2 (fun _ => by simp only [List.length_cons]; omega) (fun _ => by simp only [List.length_cons]; omega), ?_, q⟩
   have hv : CVR (ρ.setRow (base + j) v r.t B1) w (.own (base + j)) v := ⟨by simp [Env.setRow], qEY p2 v List.mem_cons_self⟩
   refine jU (p.moves _ ?_) hv
   rw [Bool.eq_false_iff]
   intro hh
   obtain ⟨d, k1, k2, k3⟩ := jJ.1 hh
   simp only [CV.says, CV.speaks, Bool.or_false, beq_iff_eq] at k3
   omega
  | _ => exact plain (fun r => by intro e; cases e)
theorem qIj (h : Rep φ ρ st a w) {b : Nat} {x : Box} {arr : Array Value} {fr : Nat × Nat} (hap : qL φ ρ st w (fun y => y = ρ.blk b)) (hit : x.it = false) (harr : w.heap[ρ.blk b]? = some (.cells arr x.e fr)) (hfr : qB5 arr.size fr) (hc : jN (CVR ρ w) x.cs arr.toList) :
  Rep φ ρ { st with boxes := put b x st.boxes } a w :=
 h.putBox (Nat.le_refl _) (zS.refl w) (fun _ _ _ => rfl) (hap.here _ rfl).1 (fun d r hd hf => hap.row d r hd _ hf rfl) (fun b' x' hx' _ e => hap.box b' x' hx' e) (hap.here _ rfl).2.2 (xB.of harr hit) hfr hc
theorem qL.backBox {b : Nat} {x : Box} {Z : Nat -> Prop} (h : qL φ ρ st w Z) (hb : ¬ Z (ρ.blk b)) : qL φ ρ { st with boxes := put b x st.boxes } w Z where
 row := h.row
 box := fun b' x' hx' => by
  simp only [qP] at hx'
  by_cases hh : b' = b
  ·subst hh; exact hb
  ·rw [if_neg hh] at hx'; exact h.box b' x' hx'
 here := h.here
theorem qLV {ρ0 : Env} {w0 : World} {B W C : Nat -> Prop} {l : qAJ} {c : CV} {v : Value} {st' : St} (h : Rep φ ρ st a w) (hl : qDz ρ0 w0 B l W v) (hF : ∀ y, ρ0.F y -> ρ.F y) (aF : qG ρ0.F w0 w) (aW : qG (fun y => W y /\ ¬ B y) w0 w)
  (hc : BC ρ.F w c C v) (hZ : qL φ ρ st w fun y => C y \/ (W y /\ ¬ B y)) (hCW : ∀ y, C y -> ¬ (W y /\ ¬ B y)) (hn : ∀ d ∈ l.rowNames, ρ.val d = ρ0.val d /\ ρ.ty d = ρ0.ty d) (hblk : ∀ b ∈ l.boxNames, ρ.blk b = ρ0.blk b)
  (he : qEU st l c = some st') : ∃ ρ', Rep φ ρ' st' a w /\ ρ'.F = ρ.F /\ ρ'.blk = ρ.blk /\ (∀ Z0, qL φ ρ st w Z0 -> (∀ y, Z0 y -> ¬ (C y \/ (W y /\ ¬ B y))) -> qL φ ρ' st' w Z0) /\
   ∀ d, (∀ b ∈ l.boxNames, ¬ (qR b <= d /\ d < qR b + 32)) -> ρ'.val d = ρ.val d /\ ρ'.ty d = ρ.ty d := by
 cases l with
 | keep =>
  simp only [qEU, Option.some.injEq] at he
  subst he
  exact ⟨ρ, h, rfl, rfl, fun _ h _ => h, fun _ _ => ⟨rfl, rfl⟩⟩
 | row d r =>
  obtain ⟨e1, e2⟩ := hl
  obtain ⟨k1, k2⟩ := hn d (by simp [qAJ.rowNames])
  cases c with
  | row r' =>
   simp only [qEU] at he
   split at he
   ·rename_i ht
    simp only [Option.some.injEq] at he
    subst he
    obtain ⟨p1, p2, p3⟩ := (hc : BC0 ρ.F w (.row r') C v)
    have hv : v = ρ.val d := by rw [k1]; exact e1
    subst hv
    have hr := h.backRow (d := d) (r := r') (B := C) (hZ.sub fun y hy => .inl hy) p1 p2 (by rw [k2, e2, ht]) p3
    exact ⟨_, hr, rfl, rfl, fun Z0 h0 hz => h0.backRow fun y hy hh => hz y hy (.inl hh), fun _ _ => ⟨rfl, rfl⟩⟩
   ·cases he
  | _ => simp [qEU] at he
 | nest d i off r n =>
  obtain ⟨e1, e2, ⟨bb, nn, cc, e3⟩, e4⟩ := hl
  obtain ⟨k1, k2⟩ := hn d (by simp [qAJ.rowNames])
  cases c with
  | row r' =>
   simp only [qEU] at he
   split at he
   ·rename_i hm
    split at he
    ·rename_i x hx
     simp only [Option.some.injEq] at he
     subst he
     obtain ⟨p1, p2, p3⟩ := (hc : BC0 ρ.F w (.row r') C v)
     rw [show r'.m = r.m - 1 by omega] at p2
     have key := e4 ρ.F w r' C x hF aF aW p2 hCW hx
     rw [<- k1] at key e3
     have hap : qL φ ρ st w fun y => (W y /\ ¬ B y) \/ C y := hZ.sub fun y hy => hy.symm
     have hr := h.backRow (d := d) (r := { r with l := r.l.set i x }) (B := fun y => (W y /\ ¬ B y) \/ C y) hap e2 key (by rw [k2]; exact e1) (fun _ => ⟨_, _, _, e3⟩)
     exact ⟨_, hr, rfl, rfl, fun Z0 h0 hz => h0.backRow fun y hy hh => hz y hy hh.symm, fun _ _ => ⟨rfl, rfl⟩⟩
    ·cases he
   ·cases he
  | _ => simp [qEU] at he
 | box b x =>
  obtain ⟨e1, e2⟩ := hl
  have kb := hblk b (by simp [qAJ.boxNames])
  cases c with
  | boxr e cs =>
   simp only [qEU] at he
   split at he
   ·rename_i hlen
    simp only [Option.some.injEq] at he
    subst he
    obtain ⟨b', arr, fr, B1, q1, q2, q3, q4, q5, q6⟩ := (hc : BC ρ.F w (.boxr e cs) C v)
    have hb' : b' = ρ.blk b := by
     rw [e1] at q1
     simp only [Value.pointer.injEq, Option.some.injEq, Addr.mk.injEq, and_true] at q1
     rw [kb]; exact q1.symm
    subst hb'
    have hB1 : qL φ ρ st w B1 := hZ.sub fun y hy => .inl (q5 y hy).1
    obtain ⟨ρ', p, q⟩ := zD (base := qR b) (j := 0) h hB1 q6
    have hap : qL φ ρ' (qK st (qR b) 0 cs).2 w fun y => y = ρ'.blk b := by
     rw [p.blk]
     exact p.apart _ (hZ.sub fun y hy => by subst hy; exact .inl q4) fun y hy hh => by subst hy; exact (q5 _ hh).2 rfl
    refine ⟨ρ', qIj p.rep (x := { e := e, cs := (qK st (qR b) 0 cs).1, ro := x.ro }) hap rfl (by rw [p.blk]; exact q2) q3 q, p.F, p.blk, fun Z0 h0 hz => ?_, fun d hd => ?_⟩
    ·refine (p.apart Z0 h0 fun y hy hh => hz y hy (.inl (q5 y hh).1)).backBox ?_
     rw [p.blk]; exact fun hh => hz _ hh (.inl q4)
    ·refine p.val d fun hh => hd b (by simp [qAJ.boxNames]) ⟨by omega, by omega⟩
   ·cases he
  | _ => simp [qEU] at he
end
theorem qCO {ls : List (List qAJ)} (h : qBs ls = true) : ∀ l1 ∈ ls, ∀ l2 ∈ ls, ∀ x ∈ l1, ∀ y ∈ l2, ∀ d ∈ x.rowNames, ∀ b ∈ y.boxNames, ¬ (qR b <= d /\ d < qR b + 32) := by
 intro l1 h1 l2 h2 x hx y hy d hd b hb ⟨q1, q2⟩
 unfold qBs at h
 simp only [Bool.or_eq_true, List.isEmpty_iff, List.all_eq_true] at h
 have mb : b ∈ ls.flatMap fun l => l.flatMap qAJ.boxNames := List.mem_flatMap.2 ⟨l2, h2, List.mem_flatMap.2 ⟨y, hy, hb⟩⟩
 have md : d ∈ ls.flatMap fun l => l.flatMap qAJ.rowNames := List.mem_flatMap.2 ⟨l1, h1, List.mem_flatMap.2 ⟨x, hx, hd⟩⟩
 rcases h with h | h
 ·rw [h] at mb; cases mb
 ·have := h d md b mb
  simp [q1, q2] at this
section
variable {φ : Fix} {ρ : Env} {st : St} {a : Act} {w : World}
structure qDp (φ : Fix) (ρ ρ' : Env) (st st' : St) (a : Act) (w : World) (Z : Nat -> Prop) (bs : List Nat) : Prop where
 rep : Rep φ ρ' st' a w
 F : ρ'.F = ρ.F
 blk : ρ'.blk = ρ.blk
 apart : ∀ Z0, qL φ ρ st w Z0 -> (∀ y, Z0 y -> ¬ Z y) -> qL φ ρ' st' w Z0
 val : ∀ d, (∀ b ∈ bs, ¬ (qR b <= d /\ d < qR b + 32)) -> ρ'.val d = ρ.val d /\ ρ'.ty d = ρ.ty d
theorem qDp.refl (h : Rep φ ρ st a w) (Z : Nat -> Prop) : qDp φ ρ ρ st st a w Z [] := ⟨h, rfl, rfl, fun _ h _ => h, fun _ _ => ⟨rfl, rfl⟩⟩
theorem qDp.trans {ρ1 ρ2 : Env} {st1 st2 : St} {Z1 Z2 Z : Nat -> Prop} {b1 b2 : List Nat} (h : qDp φ ρ ρ1 st st1 a w Z1 b1) (h' : qDp φ ρ1 ρ2 st1 st2 a w Z2 b2) (z1 : ∀ y, Z1 y -> Z y) (z2 : ∀ y, Z2 y -> Z y) : qDp φ ρ ρ2 st st2 a w Z (b1 ++ b2) where
 rep := h'.rep
 F := h'.F.trans h.F
 blk := h'.blk.trans h.blk
 apart := fun Z0 h0 hz => h'.apart Z0 (h.apart Z0 h0 fun y hy hh => hz y hy (z1 y hh)) fun y hy hh => hz y hy (z2 y hh)
 val := fun d hd => by
  have e1 := h.val d fun b hb => hd b (List.mem_append_left _ hb)
  have e2 := h'.val d fun b hb => hd b (List.mem_append_right _ hb)
  exact ⟨e2.1.trans e1.1, e2.2.trans e1.2⟩
theorem qIi {ρ0 : Env} {w0 : World} {B : Nat -> Prop} : ∀ {ls : List qAJ} {cs : List CV} {vs : List Value} {W C : Nat -> Prop} {ρ : Env} {st st' : St}, Rep φ ρ st a w -> Sep (qDz ρ0 w0 B) ls W vs -> (∀ y, ρ0.F y -> ρ.F y) -> qG ρ0.F w0 w ->
  qG (fun y => W y /\ ¬ B y) w0 w -> Sep (BC ρ.F w) cs C vs -> (qL φ ρ st w fun y => C y \/ (W y /\ ¬ B y)) -> (∀ y, C y -> ¬ (W y /\ ¬ B y)) ->
  (∀ l ∈ ls, (∀ d ∈ l.rowNames, ρ.val d = ρ0.val d /\ ρ.ty d = ρ0.ty d) /\ ∀ b ∈ l.boxNames, ρ.blk b = ρ0.blk b) -> (∀ x ∈ ls, ∀ y ∈ ls, ∀ d ∈ x.rowNames, ∀ b ∈ y.boxNames, ¬ (qR b <= d /\ d < qR b + 32)) ->
  qHc st ls cs = some st' -> ∃ ρ', qDp φ ρ ρ' st st' a w (fun y => C y \/ (W y /\ ¬ B y)) (ls.flatMap qAJ.boxNames)
 | [], [], [], W, C, ρ, st, st', h, _, _, _, _, _, _, _, _, _, he => by
  simp only [qHc, Option.some.injEq] at he
  subst he
  exact ⟨ρ, qDp.refl h _⟩
 | [], _ :: _, vs, W, C, ρ, st, st', h, _, _, _, _, _, _, _, _, _, he => by simp [qHc] at he
 | _ :: _, [], vs, W, C, ρ, st, st', h, _, _, _, _, _, _, _, _, _, he => by simp [qHc] at he
 | l :: ls, c :: cs, [], W, C, ρ, st, st', h, hl, _, _, _, _, _, _, _, _, he => by exact hl.elim
 | l :: ls, c :: cs, v :: vs, W, C, ρ, st, st', h, hl, hF, aF, aW, hc, hZ, hCW, hn, hnn, he => by
  obtain ⟨W1, W2, w1, w2, l1, l2⟩ := hl
  obtain ⟨C1, C2, c1, c2, k1, k2⟩ := hc
  simp only [qHc] at he
  split at he
  ·rename_i st1 h1
   have z1 : ∀ y, (C1 y \/ (W1 y /\ ¬ B y)) -> (C y \/ (W y /\ ¬ B y)) := fun y hy => hy.imp (fun h => (c1 y h).1) fun h => ⟨(w1 y h.1).1, h.2⟩
   have z2 : ∀ y, (C2 y \/ (W2 y /\ ¬ B y)) -> (C y \/ (W y /\ ¬ B y)) := fun y hy => hy.imp (c2 y) fun h => ⟨w2 y h.1, h.2⟩
   obtain ⟨ρ1, q1, q2, q3, q4, q5⟩ := qLV h l1 hF aF (aW.mono fun y hy => ⟨(w1 y hy.1).1, hy.2⟩) k1 (hZ.sub z1) (fun y hy hh => hCW y (c1 y hy).1 ⟨(w1 y hh.1).1, hh.2⟩) (hn l List.mem_cons_self).1 (hn l List.mem_cons_self).2 h1
   have hap2 : qL φ ρ1 st1 w fun y => C2 y \/ (W2 y /\ ¬ B y) := q4 _ (hZ.sub z2) fun y hy hh => by
    rcases hy with hy | hy <;> rcases hh with hh | hh
    ·exact (c1 y hh).2 hy
    ·exact hCW y (c2 y hy) ⟨(w1 y hh.1).1, hh.2⟩
    ·exact hCW y (c1 y hh).1 ⟨w2 y hy.1, hy.2⟩
    ·exact (w1 y hh.1).2 hy.1
   obtain ⟨ρ2, b2⟩ := qIi q1 l2 (fun y hy => by rw [q2]; exact hF y hy) aF (aW.mono fun y hy => ⟨w2 y hy.1, hy.2⟩) (k2.imp fun c C v _ hh => by rw [q2]; exact hh) hap2 (fun y hy hh => hCW y (c2 y hy) ⟨w2 y hh.1, hh.2⟩)
    (fun x hx => ⟨fun d hd => by
     have e1 := q5 d fun b hb => hnn x (List.mem_cons_of_mem _ hx) l List.mem_cons_self d hd b hb
     have e2 := (hn x (List.mem_cons_of_mem _ hx)).1 d hd
     exact ⟨e1.1.trans e2.1, e1.2.trans e2.2⟩, fun b hb => by rw [q3]; exact (hn x (List.mem_cons_of_mem _ hx)).2 b hb⟩)
    (fun x hx y hy => hnn x (List.mem_cons_of_mem _ hx) y (List.mem_cons_of_mem _ hy)) he
   exact ⟨ρ2, qDp.trans (b1 := l.boxNames) ⟨q1, q2, q3, q4, q5⟩ b2 z1 z2⟩
  ·cases he
theorem qGr {ρ0 : Env} {w0 : World} {B : Nat -> Prop} : ∀ {ls : List (List qAJ)} {cs : List (List CV)} {vs : List (List Value)} {W C : Nat -> Prop} {ρ : Env} {st st' : St}, Rep φ ρ st a w -> Sep (Sep (qDz ρ0 w0 B)) ls W vs -> (∀ y, ρ0.F y -> ρ.F y) -> qG ρ0.F w0 w ->
  qG (fun y => W y /\ ¬ B y) w0 w -> Sep (Sep (BC ρ.F w)) cs C vs -> (qL φ ρ st w fun y => C y \/ (W y /\ ¬ B y)) -> (∀ y, C y -> ¬ (W y /\ ¬ B y)) ->
  (∀ l ∈ ls, ∀ x ∈ l, (∀ d ∈ x.rowNames, ρ.val d = ρ0.val d /\ ρ.ty d = ρ0.ty d) /\ ∀ b ∈ x.boxNames, ρ.blk b = ρ0.blk b) -> (∀ l1 ∈ ls, ∀ l2 ∈ ls, ∀ x ∈ l1, ∀ y ∈ l2, ∀ d ∈ x.rowNames, ∀ b ∈ y.boxNames, ¬ (qR b <= d /\ d < qR b + 32)) ->
  qB1 st ls cs = some st' -> ∃ ρ', qDp φ ρ ρ' st st' a w (fun y => C y \/ (W y /\ ¬ B y)) (ls.flatMap fun l => l.flatMap qAJ.boxNames)
 | [], [], [], W, C, ρ, st, st', h, _, _, _, _, _, _, _, _, _, he => by
  simp only [qB1, Option.some.injEq] at he
  subst he
  exact ⟨ρ, qDp.refl h _⟩
 | [], _ :: _, vs, W, C, ρ, st, st', h, _, _, _, _, _, _, _, _, _, he => by simp [qB1] at he
 | _ :: _, [], vs, W, C, ρ, st, st', h, _, _, _, _, _, _, _, _, _, he => by simp [qB1] at he
 | l :: ls, c :: cs, [], W, C, ρ, st, st', h, hl, _, _, _, _, _, _, _, _, he => by exact hl.elim
 | l :: ls, c :: cs, v :: vs, W, C, ρ, st, st', h, hl, hF, aF, aW, hc, hZ, hCW, hn, hnn, he => by
  obtain ⟨W1, W2, w1, w2, l1, l2⟩ := hl
  obtain ⟨C1, C2, c1, c2, k1, k2⟩ := hc
  simp only [qB1] at he
  split at he
  ·rename_i st1 h1
   have z1 : ∀ y, (C1 y \/ (W1 y /\ ¬ B y)) -> (C y \/ (W y /\ ¬ B y)) := fun y hy => hy.imp (fun h => (c1 y h).1) fun h => ⟨(w1 y h.1).1, h.2⟩
   have z2 : ∀ y, (C2 y \/ (W2 y /\ ¬ B y)) -> (C y \/ (W y /\ ¬ B y)) := fun y hy => hy.imp (c2 y) fun h => ⟨w2 y h.1, h.2⟩
   obtain ⟨ρ1, q⟩ := qIi h l1 hF aF (aW.mono fun y hy => ⟨(w1 y hy.1).1, hy.2⟩) k1 (hZ.sub z1) (fun y hy hh => hCW y (c1 y hy).1 ⟨(w1 y hh.1).1, hh.2⟩) (hn l List.mem_cons_self)
    (fun x hx y hy => hnn l List.mem_cons_self l List.mem_cons_self x hx y hy) h1
   have hap2 : qL φ ρ1 st1 w fun y => C2 y \/ (W2 y /\ ¬ B y) := q.apart _ (hZ.sub z2) fun y hy hh => by
    rcases hy with hy | hy <;> rcases hh with hh | hh
    ·exact (c1 y hh).2 hy
    ·exact hCW y (c2 y hy) ⟨(w1 y hh.1).1, hh.2⟩
    ·exact hCW y (c1 y hh).1 ⟨w2 y hy.1, hy.2⟩
    ·exact (w1 y hh.1).2 hy.1
   obtain ⟨ρ2, b2⟩ := qGr q.rep l2 (fun y hy => by rw [q.F]; exact hF y hy) aF (aW.mono fun y hy => ⟨w2 y hy.1, hy.2⟩) (k2.imp fun c C v _ hh => by rw [q.F]; exact hh) hap2 (fun y hy hh => hCW y (c2 y hy) ⟨w2 y hh.1, hh.2⟩)
    (fun l' hl' x hx => ⟨fun d hd => by
     have e1 := q.val d fun b hb => by
      obtain ⟨y, hy, hb⟩ := List.mem_flatMap.1 hb
      exact hnn l' (List.mem_cons_of_mem _ hl') l List.mem_cons_self x hx y hy d hd b hb
     have e2 := (hn l' (List.mem_cons_of_mem _ hl') x hx).1 d hd
     exact ⟨e1.1.trans e2.1, e1.2.trans e2.2⟩, fun b hb => by rw [q.blk]; exact (hn l' (List.mem_cons_of_mem _ hl') x hx).2 b hb⟩)
    (fun x hx y hy => hnn x (List.mem_cons_of_mem _ hx) y (List.mem_cons_of_mem _ hy)) he
   exact ⟨ρ2, q.trans b2 z1 z2⟩
  ·cases he
theorem kB : ∀ {ds : List (Nat × Nat)} {ρ : Env} {st : St}, (∀ p, p ∈ ds -> p.2 <= 1) -> Rep φ ρ st a w ->
  ∃ ρ', ρ.Le ρ' /\ (∀ e y, ρ'.ft e y -> ρ.ft e y) /\ (∀ y, xG ρ ds [] y -> (∀ p, p ∈ ds -> ∃ r, st.row? p.1 = some r) -> ρ'.F y) /\ Rep φ ρ' (zM st ds) a w /\
   (∀ Z, qL φ ρ st w Z -> qL φ ρ' (zM st ds) w Z) /\ (zM st ds).boxes = st.boxes
 | [], ρ, st, _, h => ⟨ρ, Env.Le.refl ρ, fun _ _ h => h, fun y hy _ => (by
   rcases hy with hy | ⟨p, hp, _⟩ | ⟨b, hb, _⟩
   ·exact hy
   ·cases hp
   ·cases hb), h, fun _ h => h, rfl⟩
 | (d, k) :: ds, ρ, st, hk, h => by
  have hk1 : k <= 1 := hk (d, k) List.mem_cons_self
  have hks : ∀ p, p ∈ ds -> p.2 <= 1 := fun p hp => hk p (List.mem_cons_of_mem _ hp)
  simp only [zM]
  split
  ·rename_i r hr
   obtain ⟨ρ1, l1, f1, n1, c1, s1, h1⟩ := h.lowRow (qI hr) (qJ hr) (k := Nat.min r.m k) (Nat.min_le_left _ _)
   obtain ⟨ρ2, l2, f2, s2, h2, a2, b2⟩ := kB hks h1
   refine ⟨ρ2, l1.trans l2, fun e y hy => f1 e y (f2 e y hy), fun y hy hall => ?_, h2, fun Z hZ => a2 Z (hZ.low (r' := { r with m := Nat.min r.m k }) (qI hr) f1 l1.blk n1), b2⟩
   have hall' : ∀ p, p ∈ ds -> ∃ r', ({ st with rows := put d { r with m := Nat.min r.m k } st.rows } : St).row? p.1 = some r' := fun p hp => by
    simp only [St.row?, qP]
    by_cases hpd : p.1 = d
    ·simp only [if_pos hpd, qJ hr]; exact ⟨_, rfl⟩
    ·simp only [if_neg hpd]; exact hall p (List.mem_cons_of_mem _ hp)
   rcases hy with hy | ⟨p, hp, hf, hp2⟩ | ⟨b, hb, _⟩
   ·exact l2.F y (l1.F y hy)
   ·rcases List.mem_cons.1 hp with rfl | hp
    ·have hmin : Nat.min r.m k = 0 \/ Nat.min r.m k = k := by
      rcases Nat.le_total r.m k with h' | h'
      ·have : Nat.min r.m k = r.m := Nat.min_eq_left h'
       rw [this]; omega
      ·right; exact Nat.min_eq_right h'
     refine l2.F y (s1 y hf ?_)
     rcases hmin with hm | hm
     ·exact .inl hm
     ·rw [hm]
      rcases hp2 with hp2 | hp2
      ·exact .inl hp2
      ·simp only at hp2
       rcases Nat.eq_zero_or_pos k with h0 | h0
       ·exact .inl h0
       ·exact .inr ⟨by omega, hp2⟩
    ·rcases c1 p.1 y hf with hf | hf
     ·exact s2 y (.inr (.inl ⟨p, hp, hf, hp2.imp id fun hp2 => by rw [l1.val]; exact hp2⟩)) hall'
     ·exact l2.F y hf
   ·cases hb
  ·rename_i hr
   obtain ⟨ρ2, l2, f2, s2, h2, a2, b2⟩ := kB hks h
   refine ⟨ρ2, l2, f2, fun y hy hall => ?_, h2, a2, b2⟩
   obtain ⟨r, hr'⟩ := hall (d, k) List.mem_cons_self
   rw [hr] at hr'; cases hr'
theorem wD : ∀ {bs : List Nat} {ρ : Env} {st : St}, Rep φ ρ st a w ->
  ∃ ρ', ρ.Le ρ' /\ ρ'.ft = ρ.ft /\ (∀ b x, b ∈ bs -> qO b st.boxes = some x -> ρ'.F (ρ.blk b)) /\ Rep φ ρ' (zJ st bs) a w /\ (∀ Z, qL φ ρ st w Z -> qL φ ρ' (zJ st bs) w Z)
 | [], ρ, st, h => ⟨ρ, Env.Le.refl ρ, rfl, fun b x hb => (by cases hb), h, fun _ h => h⟩
 | b :: bs, ρ, st, h => by
  simp only [zJ]
  split
  ·rename_i x hx
   have h1 := h.freezeBox hx
   obtain ⟨ρ2, l2, f2, s2, h2, a2⟩ := wD (bs := bs) h1
   have l1 : ρ.Le (ρ.addF fun y => y = ρ.blk b) := ⟨fun y hy => .inl hy, fun _ h => h, rfl, rfl, rfl⟩
   refine ⟨ρ2, l1.trans l2, f2, fun b' x' hb' hx' => ?_, h2, fun Z hZ => a2 Z ⟨hZ.row, fun b' x' hx' => ?_, fun y hy => ⟨fun hf => ?_, (hZ.here y hy).2⟩⟩⟩
   ·rcases List.mem_cons.1 hb' with rfl | hb'
    ·exact l2.F _ (.inr rfl)
    ·refine s2 b' (if b' = b then { x with ro := true } else x') hb' ?_
     rw [qP]
     by_cases hh : b' = b
     ·simp [hh]
     ·simp [hh, hx']
   ·simp only [qP] at hx'
    by_cases hh : b' = b
    ·subst hh; exact hZ.box b' x hx
    ·rw [if_neg hh] at hx'; exact hZ.box b' x' hx'
   ·rcases hf with hf | hf
    ·exact (hZ.here y hy).1 hf
    ·subst hf; exact hZ.box b x hx hy
  ·rename_i hx
   obtain ⟨ρ2, l2, f2, s2, h2, a2⟩ := wD (bs := bs) h
   refine ⟨ρ2, l2, f2, fun b' x' hb' hx' => ?_, h2, a2⟩
   rcases List.mem_cons.1 hb' with rfl | hb'
   ·rw [hx] at hx'; cases hx'
   ·exact s2 b' x' hb' hx'
theorem jS.setBlk {b nb : Nat} {c : CV} (hc : c.says (CV.pts b) = false) : jS ρ (ρ.setBlk b nb) w w c :=
 ⟨fun _ h => h, qG.refl _ _, fun _ _ => ⟨rfl, rfl⟩, fun d _ ho => ⟨ho, fun _ _ _ _ _ => qG.refl _ _⟩, fun b' hb' => by
  have : b' ≠ b := by rintro rfl; rw [hc] at hb'; cases hb'
  simp [Env.setBlk, this]⟩
theorem Rep.newBox (h : Rep φ ρ st a w) {b : Nat} {x : Box} {arr : Array Value} {fr : Nat × Nat} {nb : Nat} (hnb : qL φ ρ st w fun y => y = nb) (hit : x.it = false) (harr : w.heap[nb]? = some (.cells arr x.e fr)) (hfr : qB5 arr.size fr)
  (hc : jN (CVR ρ w) x.cs arr.toList) (hp : ∀ c ∈ x.cs, c.says (CV.pts b) = false) : Rep φ (ρ.setBlk b nb) (st.newBox b x) a w := by
 have m : ∀ c : CV, c.says (CV.pts b) = false -> jS ρ (ρ.setBlk b nb) w w c := fun c hc => jS.setBlk hc
 have hbx : ∀ {b' y}, qO b' (del b (st.kill (CV.pts b)).boxes) = some y -> b' ≠ b /\ qO b' (st.kill (CV.pts b)).boxes = some y := fun {b' y} hy => vH hy
 have hbx' : ∀ {b' y}, qO b' (del b (st.kill (CV.pts b)).boxes) = some y -> b' ≠ b /\ ∃ y', qO b' st.boxes = some y' /\ y.ro = y'.ro := fun {b' y} hy => by
  obtain ⟨hn, hy⟩ := hbx hy
  obtain ⟨y', hy', rfl⟩ := qM hy
  exact ⟨hn, y', hy', rfl⟩
 have blk : ∀ {b'}, b' ≠ b -> (ρ.setBlk b nb).blk b' = ρ.blk b' := fun hn => by simp [Env.setBlk, hn]
 have hb : (ρ.setBlk b nb).blk b = nb := by simp [Env.setBlk]
 have h1 : Rep φ (ρ.setBlk b nb) { st.kill (CV.pts b) with boxes := del b (st.kill (CV.pts b)).boxes, lentB := st.lentB.filter fun y => !(y == b) } a w := {
  size := h.size, nodef := h.nodef, on := h.on
  slots := h.slots_kill m
  rows := fun d r hd => h.rows d r hd
  boxes := fun b' y hy => by
   obtain ⟨hn, hy⟩ := hbx hy
   obtain ⟨y', hy', rfl⟩ := qM hy
   obtain ⟨arr', fr', k1, k2, k3⟩ := h.boxes b' y' hy'
   exact ⟨arr', fr', by rw [blk hn]; exact k1, k2, yG (fun c v _ hc => qBw (m c) hc) k3⟩
  rsep := h.rsep, rF := h.rF
  rb := fun d r b' y hd hy => by obtain ⟨hn, y', hy', _⟩ := hbx' hy; rw [blk hn]; exact h.rb d r b' y' hd hy'
  bsep := fun b1 b2 x1 x2 k1 k2 hn => by
   obtain ⟨n1, y1, e1, _⟩ := hbx' k1
   obtain ⟨n2, y2, e2, _⟩ := hbx' k2
   rw [blk n1, blk n2]; exact h.bsep b1 b2 y1 y2 e1 e2 hn
  bF := fun b' y hy => by obtain ⟨hn, y', hy', e⟩ := hbx' hy; rw [blk hn, e]; exact h.bF b' y' hy'
  Fbd := h.Fbd, F0 := h.F0, grow := h.grow, io := h.io, tab := h.tab, keep := h.keep, lentR := h.lentR
  lentB := fun b' hb' => by
   have h1 := List.mem_filter.1 hb'
   have : b' ≠ b := by rintro rfl; simp at h1
   rw [blk this]; exact h.lentB b' h1.1 }
 have ap1 : qL φ (ρ.setBlk b nb) { st.kill (CV.pts b) with boxes := del b (st.kill (CV.pts b)).boxes, lentB := st.lentB.filter fun y => !(y == b) } w fun y => y = (ρ.setBlk b nb).blk b := by
  rw [hb]
  exact ⟨hnb.row, fun b' y hy => by obtain ⟨hn, y', hy', _⟩ := hbx' hy; rw [blk hn]; exact hnb.box b' y' hy', hnb.here⟩
 have h2 := qIj h1 (b := b) (x := x) (fr := fr) ap1 hit (by rw [hb]; exact harr) hfr (hc.impMem fun c v hcm hv => jU (m c (hp c hcm)) hv)
 have e : { ({ st.kill (CV.pts b) with boxes := del b (st.kill (CV.pts b)).boxes, lentB := st.lentB.filter fun y => !(y == b) } : St) with boxes := put b x (del b (st.kill (CV.pts b)).boxes) } = { st.newBox b x with boxes := put b x (del b (st.kill (CV.pts b)).boxes) } := rfl
 have hl : ∀ b', qO b' (put b x (del b (st.kill (CV.pts b)).boxes)) = qO b' (put b x (st.kill (CV.pts b)).boxes) := fun b' => by
  rw [qP, qP, wL]
  split
  ·rfl
  ·rfl
 exact h2.less h2.on (fun _ _ h => h) (fun _ _ h => h) (fun b' y hy => by
  show qO b' (put b x (del b (st.kill (CV.pts b)).boxes)) = some y
  rw [hl]; exact hy) (fun _ h => h) (fun _ h => h)
theorem wU {base b : Nat} : ∀ {cs : List CV} {vs : List Value} {j : Nat} {st : St} {F B : Nat -> Prop}, Sep (BC0 F w) cs B vs -> ∀ c ∈ (qK st base j cs).1, c.says (CV.pts b) = false
 | [], [], j, st, F, B, _, c, hc => by cases hc
 | x :: cs, v :: vs, j, st, F, B, h, c, hc => by
  obtain ⟨B1, B2, _, _, h1, h2⟩ := h
  have plain : (∀ r, x ≠ .row r) -> c ∈ x :: (qK st base (j + 1) cs).1 -> c.says (CV.pts b) = false := by
   intro hn hm
   rcases List.mem_cons.1 hm with rfl | hm
   ·have hp : c.plain = true := by cases c <;> first | exact h1.1 | exact absurd rfl (hn _)
    exact (kP hp).2 b
   ·exact wU h2 c hm
  cases x with
  | row r =>
   simp only [qK] at hc
   rcases List.mem_cons.1 hc with rfl | hc
   ·rfl
   ·exact wU h2 c hc
  | _ => exact plain (fun r => by intro e; cases e) hc
theorem qJ4 {dst j : Nat} {v : SV} {x : Value} {B : Nat -> Prop} (h : Rep φ ρ st a w) (hB : qL φ ρ st w B) (hv : BV ρ.F w v B x) (hk : ∀ f n cs, v ≠ .clo f n cs) : ∃ ρ', Rep φ ρ' (qDV st dst j v).2.1 a w /\ qE2 ρ' w (qDV st dst j v).1 x := by
 cases v with
 | c y =>
  rcases kJ (show BC ρ.F w y B x from hv) with ⟨e, cs, rfl⟩ | ⟨hn, h0⟩
  ·obtain ⟨nb, arr, fr, B1, q1, q2, q3, q4, q5, q6⟩ := (hv : BC ρ.F w (.boxr e cs) B x)
   simp only [qDV]
   obtain ⟨ρ', p, q⟩ := zD (base := qR dst) (j := 0) h (hB.sub fun y hy => (q5 y hy).1) q6
   have hap : qL φ ρ' (qK st (qR dst) 0 cs).2 w fun y => y = nb := p.apart _ (hB.sub fun y hy => by subst hy; exact q4) fun y hy hh => by subst hy; exact (q5 _ hh).2 rfl
   refine ⟨_, p.rep.newBox (b := dst) (x := { e := e, cs := (qK st (qR dst) 0 cs).1, ro := false }) hap rfl q2 q3 q (wU q6), ?_⟩
   show x = .pointer (some ⟨(ρ'.setBlk dst nb).blk dst, 0, none⟩)
   rw [q1]; simp [Env.setBlk]
  ·have hs : Sep (BC0 ρ.F w) [y] B [x] := Sep.one h0
   obtain ⟨ρ', p, q⟩ := zD (base := 32 * dst) (j := j) h hB hs
   have e : qDV st dst j (.c y) = (.c ((qK st (32 * dst) j [y]).1.headD .undef), (qK st (32 * dst) j [y]).2, j + 1) := by
    cases y with
    | boxr e cs => exact absurd rfl (hn e cs)
    | row r => rfl
    | _ => rfl
   rw [e]
   refine ⟨ρ', p.rep, ?_⟩
   generalize (qK st (32 * dst) j [y]).1 = ys at q
   match ys, q with
   | [z], q => exact q.1
 | agg xs =>
  obtain ⟨arr, rfl, hs⟩ := hv
  obtain ⟨ρ', p, q⟩ := zD (base := 32 * dst) (j := j) h hB hs
  exact ⟨ρ', p.rep, arr, rfl, q⟩
 | undef => exact hv.elim
 | clo _ _ _ => exact absurd rfl (hk _ _ _)
 | tup _ => exact hv.elim
theorem qJ3 {dst j : Nat} {v : SV} {x : Value} {B : Nat -> Prop} (h : Rep φ ρ st a w) (hB : qL φ ρ st w B) (hv : BV ρ.F w v B x) (hn : ∀ e cs, v ≠ .c (.boxr e cs)) (hk : ∀ f n cs, v ≠ .clo f n cs) :
  ∃ ρ', qIm φ ρ ρ' st (qDV st dst j v).2.1 a w B (32 * dst + j) (32 * dst + (qDV st dst j v).2.2) /\ qE2 ρ' w (qDV st dst j v).1 x /\ j <= (qDV st dst j v).2.2 /\
   ∀ c ∈ (qDV st dst j v).1.all, (∀ lo hi, 32 * dst + (qDV st dst j v).2.2 <= lo -> c.says (CV.within lo hi) = false) := by
 have names : ∀ {cs : List CV} {vs : List Value} {j : Nat} {st : St} {F B : Nat -> Prop}, Sep (BC0 F w) cs B vs -> ∀ c ∈ (qK st (32 * dst) j cs).1, ∀ lo hi, 32 * dst + (j + cs.length) <= lo -> c.says (CV.within lo hi) = false := by
  intro cs
  induction cs with
  | nil => intro vs j st F B hs c hc; cases hc
  | cons y cs ih =>
   intro vs j st F B hs c hc lo hi hlo
   cases vs with
   | nil => exact hs.elim
   | cons u us =>
    obtain ⟨B1, B2, _, _, h1, h2⟩ := hs
    simp only [List.length_cons] at hlo
    have plain : (∀ r, y ≠ .row r) -> c ∈ y :: (qK st (32 * dst) (j + 1) cs).1 -> c.says (CV.within lo hi) = false := by
     intro hn hm
     rcases List.mem_cons.1 hm with rfl | hm
     ·have hp : c.plain = true := by cases c <;> first | exact h1.1 | exact absurd rfl (hn _)
      rw [Bool.eq_false_iff]
      intro hh
      obtain ⟨d, _, _, q⟩ := jJ.1 hh
      rw [(kP hp).1 d] at q; cases q
     ·exact ih h2 c hm lo hi (by omega)
    cases y with
    | row r =>
     simp only [qK] at hc
     rcases List.mem_cons.1 hc with rfl | hc
     ·rw [Bool.eq_false_iff]
      intro hh
      obtain ⟨d, q1, _, q⟩ := jJ.1 hh
      simp only [CV.says, CV.speaks, Bool.or_false, beq_iff_eq] at q
      omega
     ·exact ih h2 c hc lo hi (by omega)
    | _ => exact plain (fun r => by intro e; cases e) hc
 cases v with
 | c y =>
  rcases kJ (show BC ρ.F w y B x from hv) with ⟨e, cs, rfl⟩ | ⟨hn', h0⟩
  ·exact absurd rfl (hn e cs)
  ·have hs : Sep (BC0 ρ.F w) [y] B [x] := Sep.one h0
   obtain ⟨ρ', p, q⟩ := zD (base := 32 * dst) (j := j) h hB hs
   have e : qDV st dst j (.c y) = (.c ((qK st (32 * dst) j [y]).1.headD .undef), (qK st (32 * dst) j [y]).2, j + 1) := by
    cases y with
    | boxr e cs => exact absurd rfl (hn' e cs)
    | row r => rfl
    | _ => rfl
   rw [e]
   have nm := names (st := st) (j := j) hs
   generalize hys : (qK st (32 * dst) j [y]).1 = ys at q nm
   match ys, q with
   | [z], q =>
    refine ⟨ρ', by simpa [Nat.add_assoc] using p, q.1, by simp, fun c hc lo hi hlo => ?_⟩
    simp only [List.headD_cons, SV.all, List.mem_singleton] at hc
    subst hc
    exact nm _ List.mem_cons_self lo hi (by simpa using hlo)
 | agg xs =>
  obtain ⟨arr, rfl, hs⟩ := hv
  obtain ⟨ρ', p, q⟩ := zD (base := 32 * dst) (j := j) h hB hs
  exact ⟨ρ', by simpa [qDV, Nat.add_assoc] using p, ⟨arr, rfl, q⟩, by simp [qDV], fun c hc lo hi hlo => names hs c hc lo hi (by simpa [qDV] using hlo)⟩
 | undef => exact hv.elim
 | clo _ _ _ => exact absurd rfl (hk _ _ _)
 | tup _ => exact hv.elim
theorem qH2 {dst : Nat} : ∀ {vs : List SV} {xs : List Value} {j : Nat} {ρ : Env} {st : St} {B : Nat -> Prop}, Rep φ ρ st a w -> qL φ ρ st w B -> Sep (BV ρ.F w) vs B xs -> (∀ v ∈ vs, (∀ e cs, v ≠ .c (.boxr e cs)) /\ ∀ f n cs, v ≠ .clo f n cs) ->
  ∃ ρ' hi, qIm φ ρ ρ' st (qLF st dst j vs).2 a w B (32 * dst + j) hi /\ jN (qE2 ρ' w) (qLF st dst j vs).1 xs
 | [], [], j, ρ, st, B, h, _, _, _ => ⟨ρ, 0, qIm.refl h _ _ _, trivial⟩
 | v :: vs, x :: xs, j, ρ, st, B, h, hB, hs, hn => by
  obtain ⟨B1, B2, d1, d2, h1, h2⟩ := hs
  obtain ⟨ρ1, p1, q1, hj, nm⟩ := qJ3 (dst := dst) (j := j) h (hB.sub fun y hy => (d1 y hy).1) h1 (hn v List.mem_cons_self).1 (hn v List.mem_cons_self).2
  obtain ⟨ρ2, hi, p2, q2⟩ := qH2 (dst := dst) (j := (qDV st dst j v).2.2) p1.rep (p1.apart B2 (hB.sub d2) fun y hy hh => (d1 y hh).2 hy) (h2.imp fun _ _ _ _ hh => by rw [p1.F]; exact hh) fun u hu => hn u (List.mem_cons_of_mem _ hu)
  refine ⟨ρ2, max hi (32 * dst + (qDV st dst j v).2.2), p1.trans p2 (fun y hy => (d1 y hy).1) d2 (fun _ => ⟨by omega, by omega⟩) (fun _ => ⟨by omega, by omega⟩), ?_, q2⟩
  exact qDf (fun c hc => p2.moves c (nm c hc _ _ (Nat.le_refl _))) q1
end
section
variable {φ : Fix} {ρ : Env} {st : St} {a : Act} {w : World} {P : Program} {C : Ctx}
theorem qHN {st : St} {n : Nat} : ∀ {c c' : CV} {ds : List (Nat × Nat)} {bs : List Nat}, rdC st n c = some (c', ds, bs) -> ∀ p ∈ ds, p.2 <= 1 := by
 induction n with
 | zero => intro c c' ds bs h; simp [rdC] at h
 | succ n ih =>
  have many : ∀ {cs cs' : List CV} {ds : List (Nat × Nat)} {bs : List Nat}, qAi (rdC st n) cs = some (cs', ds, bs) -> ∀ p ∈ ds, p.2 <= 1 := by
   intro cs
   induction cs with
   | nil => intro cs' ds bs h p hp; simp only [qAi, Option.some.injEq, Prod.mk.injEq] at h; obtain ⟨_, rfl, _⟩ := h; cases hp
   | cons c cs ihc =>
    intro cs' ds bs h p hp
    simp only [qAi] at h
    split at h
    ·rename_i y ds1 bs1 hy
     split at h
     ·rename_i ys ds2 bs2 hys
      simp only [Option.some.injEq, Prod.mk.injEq] at h
      obtain ⟨_, rfl, _⟩ := h
      rcases List.mem_append.1 hp with hp | hp
      ·exact ih hy p hp
      ·exact ihc hys p hp
     ·cases h
    ·cases h
  intro c c' ds bs h p hp
  cases c with
  | pbox b off =>
   simp only [rdC] at h
   split at h
   ·split at h
    ·rename_i hm
     split at h
     ·split at h
      ·simp only [Option.some.injEq, Prod.mk.injEq] at h
       obtain ⟨_, rfl, _⟩ := h
       exact many hm p hp
      ·cases h
     ·cases h
    ·cases h
   ·cases h
  | fn f sh k cs =>
   simp only [rdC] at h
   split at h
   ·rename_i hm
    simp only [Option.some.injEq, Prod.mk.injEq] at h
    obtain ⟨_, rfl, _⟩ := h
    exact many hm p hp
   ·cases h
  | _ =>
   simp only [rdC] at h
   repeat' split at h
   all_goals first
    | (cases h; done)
    | (simp only [Option.some.injEq, Prod.mk.injEq] at h; obtain ⟨_, rfl, _⟩ := h; first | (cases hp; done) | (rw [List.mem_singleton] at hp; subst hp; first | exact Nat.le_refl 1 | exact Nat.zero_le 1))
theorem qJE {v v' : SV} {ds : List (Nat × Nat)} {bs : List Nat} (h : rdS st v = some (v', ds, bs)) : ∀ p ∈ ds, p.2 <= 1 := by
 have many : ∀ {cs cs' : List CV} {ds : List (Nat × Nat)} {bs : List Nat}, qAi (rdC st 4) cs = some (cs', ds, bs) -> ∀ p ∈ ds, p.2 <= 1 := by
  intro cs
  induction cs with
  | nil => intro cs' ds bs h p hp; simp only [qAi, Option.some.injEq, Prod.mk.injEq] at h; obtain ⟨_, rfl, _⟩ := h; cases hp
  | cons c cs ihc =>
   intro cs' ds bs h p hp
   simp only [qAi] at h
   split at h
   ·rename_i y ds1 bs1 hy
    split at h
    ·rename_i ys ds2 bs2 hys
     simp only [Option.some.injEq, Prod.mk.injEq] at h
     obtain ⟨_, rfl, _⟩ := h
     rcases List.mem_append.1 hp with hp | hp
     ·exact qHN hy p hp
     ·exact ihc hys p hp
    ·cases h
   ·cases h
 cases v with
 | c x =>
  simp only [rdS] at h
  split at h
  ·rename_i hy; simp only [Option.some.injEq, Prod.mk.injEq] at h; obtain ⟨_, rfl, _⟩ := h; exact qHN hy
  ·cases h
 | agg xs =>
  simp only [rdS] at h
  split at h
  ·rename_i hy; simp only [Option.some.injEq, Prod.mk.injEq] at h; obtain ⟨_, rfl, _⟩ := h; exact many hy
  ·cases h
 | _ => simp [rdS] at h
theorem yN : ∀ {vs : List SV} {ms : List Nat} {st : St} {e : Exp}, jZ st ms vs = some e -> ∀ p ∈ e.peeks, p.2 <= 1
 | [], ms, st, e, h, p, hp => by simp only [jZ, Option.some.injEq] at h; subst h; cases hp
 | v :: vs, ms, st, e, h, p, hp => by
  simp only [jZ] at h
  split at h
  ·split at h
   ·rename_i hr
    split at h
    ·rename_i e2 h2
     simp only [Option.some.injEq] at h
     subst h
     rcases List.mem_append.1 hp with hp | hp
     ·exact qJE hr p hp
     ·exact yN h2 p hp
    ·cases h
   ·cases h
  ·split at h
   ·split at h
    ·split at h
     ·rename_i e2 h2
      simp only [Option.some.injEq] at h
      subst h
      exact yN h2 p hp
     ·cases h
    ·cases h
   ·cases h
  ·split at h
   ·split at h
    ·rename_i e2 h2
     simp only [Option.some.injEq] at h
     subst h
     exact yN h2 p hp
    ·cases h
   ·cases h
  ·split at h
   ·split at h
    ·split at h
     ·split at h
      ·rename_i e2 h2
       simp only [Option.some.injEq] at h
       subst h
       exact yN h2 p hp
      ·cases h
     ·cases h
    ·cases h
   ·cases h
  ·split at h
   ·split at h
    ·split at h
     ·rename_i e2 h2
      simp only [Option.some.injEq] at h
      subst h
      exact yN h2 p hp
     ·cases h
    ·cases h
   ·cases h
theorem qFX {o : Nat -> Prop} {e : Exp} {w' : World} {B W : Nat -> Prop} {ms : List Nat} {xs : List Value} {r : RES} {v : Value} {dst : Nat} {sv : SV} {st' : St} (h : Rep φ (ρ.onW o) e.st a w) (hW : qL φ ρ e.st w W) (hBW : ∀ y, B y -> W y)
  (hl : Sep (Sep (qDz ρ w B)) e.lent W (vD ms xs)) (hpk : ∀ p ∈ e.peeks, p.2 <= 1) (hok : e.ok = true) (post : qNp (xG ρ e.peeks e.peekB) B w w' ms xs r v) (he : kV e dst r = some (sv, st')) : ∃ ρ', Rep φ ρ' st' a w' /\ SVR ρ' w' sv v := by
 unfold Exp.ok at hok
 simp only [Bool.and_eq_true, List.all_eq_true] at hok
 obtain ⟨⟨⟨_, hpr⟩, hpb⟩, hna⟩ := hok
 obtain ⟨psize, pio, pkeep, F', B1, B2, pF, pF', pB, pd, pret, pouts⟩ := post
 unfold kV at he
 split at he
 ·cases he
 rename_i hsm
 have hsm' : r.ret.small = true := by simpa using hsm
 have r1 : Rep φ (ρ.onW o) e.st a w' := h.alter (K := B) (hW.onW.sub hBW) psize pio pkeep
 have hW1 : qL φ (ρ.onW o) e.st w' W := ⟨hW.row, hW.box, fun y hy => ⟨(hW.here y hy).1, Nat.lt_of_lt_of_le (hW.here y hy).2.1 psize, (hW.here y hy).2.2⟩⟩
 have hfresh : qL φ (ρ.onW o) e.st w' fun y => w.heap.size <= y /\ y < w'.heap.size :=
  ⟨fun d rr hd y hy hh => (by have := (h.rF d rr hd y hy).2.1; omega), fun b x hx hh => (by
   obtain ⟨arr, fr, k1, _⟩ := h.boxes b x hx
   have := k1.lt
   omega),
   fun y hy => ⟨fun hf => (by have := (h.Fbd y hf).1; omega), hy.2, .inr (Nat.le_trans h.grow hy.1)⟩⟩
 have key : ∃ ρ3, Rep φ ρ3 (if r.ret.leads || r.outs.any (fun cs => cs.any CV.leads) then zJ (zM e.st e.peeks) e.peekB else e.st) a w' /\ ρ.F = (ρ.onW o).F /\ (ρ.onW o).Le ρ3 /\
   (∀ Z, qL φ (ρ.onW o) e.st w' Z -> qL φ ρ3 (if r.ret.leads || r.outs.any (fun cs => cs.any CV.leads) then zJ (zM e.st e.peeks) e.peekB else e.st) w' Z) /\
   ((r.ret.leads || r.outs.any (fun cs => cs.any CV.leads)) = true -> ∀ y, xG ρ e.peeks e.peekB y -> ρ3.F y) := by
  split
  ·obtain ⟨ρ2, l2, f2, s2, h2, a2, b2⟩ := kB hpk r1
   obtain ⟨ρ3, l3, f3, s3, h3, a3⟩ := wD (bs := e.peekB) h2
   refine ⟨ρ3, h3, rfl, l2.trans l3, fun Z hZ => a3 Z (a2 Z hZ), fun _ y hy => ?_⟩
   have hall : ∀ p, p ∈ e.peeks -> ∃ r, e.st.row? p.1 = some r := fun p hp => Option.isSome_iff_exists.1 (hpr p hp)
   rcases hy with hy | hy | ⟨b, hb, e1⟩
   ·exact l3.F y (l2.F y hy)
   ·exact l3.F y (s2 y (.inr (.inl hy)) hall)
   ·obtain ⟨x, hx⟩ := Option.isSome_iff_exists.1 (hpb b hb)
    have := s3 b x hb (by rw [b2]; exact hx)
    rw [l2.blk] at this
    rw [<- e1]; exact this
  ·rename_i hn
   exact ⟨ρ.onW o, r1, rfl, Env.Le.refl _, fun _ h => h, fun hh => absurd hh hn⟩
 obtain ⟨ρ3, r3, _, le3, a3, s3⟩ := key
 generalize hst0 : (if r.ret.leads || r.outs.any (fun cs => cs.any CV.leads) then zJ (zM e.st e.peeks) e.peekB else e.st) = st0 at r3 a3 he
 have wsz : ∀ y, W y -> y < w.heap.size := fun y hy => (hW.here y hy).2.1
 have hG : qL φ ρ3 st0 w' fun y => F' y /\ (B y \/ w.heap.size <= y) := ((a3 W hW1).or (a3 _ hfresh)).sub fun y hy => by
  rcases hy.2 with hb | hb
  ·exact .inl (hBW y hb)
  ·exact .inr ⟨hb, (pF' y hy.1).1⟩
 have r4 := r3.addF hG
 have hZ : qL φ (ρ3.addF fun y => F' y /\ (B y \/ w.heap.size <= y)) st0 w' fun y => (B1 y \/ B2 y) \/ (W y /\ ¬ B y) := by
  refine qL.addF (((a3 W hW1).or (a3 _ hfresh)).sub fun y hy => ?_) fun y hy hg => ?_
  ·rcases hy with hy | hy
   ·rcases (pB y hy).2.2 with hb | hb
    ·exact .inl (hBW y hb)
    ·exact .inr ⟨hb, (pB y hy).2.1⟩
   ·exact .inl hy.1
  ·rcases hy with hy | hy
   ·exact (pB y hy).1 hg.1
   ·rcases hg.2 with hb | hb
    ·exact hy.2 hb
    ·have := wsz y hy.1; omega
 generalize hρ4 : (ρ3.addF fun y => F' y /\ (B y \/ w.heap.size <= y)) = ρ4 at r4 hZ
 have v4 : ρ4.val = ρ.val := by rw [<- hρ4]; exact le3.val
 have t4 : ρ4.ty = ρ.ty := by rw [<- hρ4]; exact le3.ty
 have b4 : ρ4.blk = ρ.blk := by rw [<- hρ4]; exact le3.blk
 have F4 : ∀ y, ρ.F y -> ρ4.F y := fun y hy => by rw [<- hρ4]; exact .inl (le3.F y hy)
 have F4' : (r.ret.leads || r.outs.any (fun cs => cs.any CV.leads)) = true -> ∀ y, F' y -> ρ4.F y := fun hh y hy => by
  rw [<- hρ4]
  rcases (pF' y hy).2 with hf | hb | hb
  ·exact .inl (s3 hh y hf)
  ·exact .inr ⟨hy, .inl hb⟩
  ·exact .inr ⟨hy, .inr hb⟩
 have pret' : BR ρ4.F w' r.ret B1 v := by
  by_cases hh : (r.ret.leads || r.outs.any (fun cs => cs.any CV.leads)) = true
  ·exact qNf (F4' hh) (qG.refl _ _) (qG.refl _ _) pret
  ·rw [Bool.not_eq_true, Bool.or_eq_false_iff] at hh
   exact qNg hh.1 pret
 have pouts' : Sep (Sep (BC ρ4.F w')) r.outs B2 (vD ms xs) := by
  by_cases hh : (r.ret.leads || r.outs.any (fun cs => cs.any CV.leads)) = true
  ·exact pouts.imp fun l C v _ hl => hl.imp fun c C v _ hc => qBH (F4' hh) (qG.refl _ _) (qG.refl _ _) hc
  ·rw [Bool.not_eq_true, Bool.or_eq_false_iff] at hh
   have h2 := hh.2
   simp only [List.any_eq_false] at h2
   refine pouts.impMem fun l C v hl _ hh => hh.impMem fun c C v hc _ hb => qK8 ?_ hb
   have := h2 l hl
   simp only [List.any_eq_true, not_exists, not_and, Bool.not_eq_true] at this
   exact this c hc
 simp only at he
 cases h1 : qB1 st0 e.lent r.outs with
 | none => rw [h1] at he; cases he
 | some st1 =>
 rw [h1] at he
 simp only at he
 have aF : qG ρ.F w w' := fun y ob hf hy => by
  have hlt : y < w.heap.size := (h.Fbd y hf).1
  rw [pkeep y hlt fun hb => (hW.here y (hBW y hb)).1 hf]; exact hy
 have aW : qG (fun y => W y /\ ¬ B y) w w' := fun y ob hf hy => by
  rw [pkeep y (wsz y hf.1) hf.2]; exact hy
 obtain ⟨ρ5, bk⟩ := qGr r4 hl F4 aF aW pouts' (hZ.sub fun y hy => hy.imp .inr id) (fun y hy hh => by
   rcases (pB y (.inr hy)).2.2 with hb | hb
   ·exact hh.2 hb
   ·have := wsz y hh.1; omega)
  (fun l hl x hx => ⟨fun d hd => by rw [v4, t4]; exact ⟨rfl, rfl⟩, fun b hb => by rw [b4]⟩) (qCO hna) h1
 have hB1 : qL φ ρ5 st1 w' B1 := bk.apart B1 (hZ.sub fun y hy => .inl (.inl hy)) fun y hy hh => by
  rcases hh with hh | hh
  ·exact pd y hy hh
  ·rcases (pB y (.inl hy)).2.2 with hb | hb
   ·exact hh.2 hb
   ·have := wsz y hh.1; omega
 rw [<- bk.F] at pret'
 cases hret : r.ret with
 | tup vs =>
  rw [hret] at he pret' hsm'
  simp only [Option.some.injEq, Prod.mk.injEq] at he
  obtain ⟨rfl, rfl⟩ := he
  obtain ⟨arr, rfl, hs⟩ := pret'
  obtain ⟨ρ6, hi, p6, q6⟩ := qH2 (dst := dst) (j := 0) bk.rep hB1 hs (fun u hu => ⟨fun ee cs hh => by
   subst hh
   simp only [SV.small, List.all_eq_true] at hsm'
   simpa using hsm' _ hu, fun f n cs hh => by
   subst hh
   simp only [SV.small, List.all_eq_true] at hsm'
   simpa using hsm' _ hu⟩)
  exact ⟨ρ6, p6.rep, arr, rfl, q6⟩
 | undef => rw [hret] at pret'; exact (show False from pret').elim
 | clo _ _ _ => rw [hret] at hsm'; simp [SV.small] at hsm'
 | c x =>
  rw [hret] at he pret'
  simp only [Option.some.injEq, Prod.mk.injEq] at he
  obtain ⟨rfl, rfl⟩ := he
  obtain ⟨ρ6, p6, q6⟩ := qJ4 (dst := dst) (j := 0) bk.rep hB1 (show BV ρ5.F w' (.c x) B1 v from pret') (fun _ _ _ hh => by cases hh)
  refine ⟨ρ6, p6, ?_⟩
  revert q6
  cases (qDV st1 dst 0 (.c x)).1 <;> first | exact id | exact fun q => q.elim
 | agg ys =>
  rw [hret] at he pret'
  simp only [Option.some.injEq, Prod.mk.injEq] at he
  obtain ⟨rfl, rfl⟩ := he
  obtain ⟨ρ6, p6, q6⟩ := qJ4 (dst := dst) (j := 0) bk.rep hB1 (show BV ρ5.F w' (.agg ys) B1 v from pret') (fun _ _ _ hh => by cases hh)
  refine ⟨ρ6, p6, ?_⟩
  revert q6
  cases (qDV st1 dst 0 (.agg ys)).1 <;> first | exact id | exact fun q => q.elim
theorem qMy : ∀ {sh : List (Bool × Nat)} {cs : List CV} {vs : List Value}, Shaped (zP ρ w) sh cs vs -> jN (SVR ρ w) (callee.un sh cs) vs
 | [], cs, vs, h => by
  obtain ⟨rfl, rfl⟩ := (by simpa [Shaped] using h : cs = [] /\ vs = [])
  simp [callee.un, jN]
 | (true, k) :: sh, cs, [], h => by simp [Shaped] at h
 | (true, k) :: sh, cs, v :: vs, h => by
  obtain ⟨arr, e, hk, h1, h2⟩ := h
  simp only [callee.un]
  exact ⟨⟨arr, e, h1.imp fun _ _ => vB⟩, qMy h2⟩
 | (false, _) :: sh, [], vs, h => by simp [Shaped] at h
 | (false, _) :: sh, c :: cs, [], h => by simp [Shaped] at h
 | (false, _) :: sh, c :: cs, v :: vs, h => by
  simp only [callee.un, List.drop_succ_cons, List.drop_zero]
  exact ⟨vB h.1, qMy h.2⟩
theorem qKx (h : Rep φ ρ st a w) {o : Oper} {c : Call} (ho : o.op = .call c) {f : FuncId} {args : List SV} (he : callee C st c = some (f, args)) : ∃ xs, jN (SVR ρ w) args xs /\ (execOp a.eval o).run P w = (callFunc f xs.toArray).run P w := by
 obtain ⟨dst, op, ty, pos, af, gd⟩ := o
 simp only at ho
 subst ho
 unfold callee at he
 split at he
 ·cases he
 ·rename_i vs hvs
  split at he
  ·rename_i fo hfo
   split at he
   ·rename_i g sh n cs hx
    simp only [Option.some.injEq, Prod.mk.injEq] at he
    obtain ⟨rfl, rfl⟩ := he
    obtain ⟨first, caps, e1, e2, e3⟩ := (jE h hx : CVR ρ w (.fn g sh n cs) _)
    have hu := qMy e3
    have ha := qCg h hvs
    refine ⟨first.toList ++ (c.args.toList.map a.eval) ++ caps.toList, ?_, ?_⟩
    ·have h1 := hu.take n
     have h2 := hu.drop n
     rw [List.take_left' (by simpa using e2)] at h1
     rw [List.drop_left' (by simpa using e2)] at h2
     exact (h1.append ha).append h2
    ·simp only [execOp, resolve, hfo, e1, Deferred.ofValue]
     show (invoke (.fn (.func g) caps) (first ++ c.args.map a.eval)).run P w = _
     simp only [invoke]
     congr 2
     apply Array.ext'
     simp
   ·cases he
  ·cases he
theorem qDP {call : jG} (hcall : qB6 P C call) : yZ P C call := by
 intro φ ρ st a w o c K h hd ho hnb he Q
 have he' : (match callee C st c with
   | some (f, args) => match jZ st (C.fi f).modes args with
    | some e => grd e.ok (call f e.args fun r => match kV e (o.dst.getD 0) r with
     | some (v, st') => K (st'.setO o.dst v)
     | none => False)
    | none => False
   | none => False) := by
  unfold qI1 at he
  rw [ho] at he
  revert he
  simp only
  cases hc : c.callee with
  | builtin b => exact absurd hc (hnb b)
  | value f => exact id
  | invoke r m => exact id
 split at he'
 ·rename_i f args hcl
  obtain ⟨xs, hxs, hrun⟩ := qKx (P := P) h ho hcl
  split at he'
  ·rename_i e hex
   cases hok : e.ok with
   | false => rw [hok] at he'; exact he'.elim
   | true =>
    rw [hok] at he'
    have hcallf : call f e.args (fun r => match kV e (o.dst.getD 0) r with
     | some (v, st') => K (st'.setO o.dst v)
     | none => False) := he'
    have hok' := hok
    unfold Exp.ok at hok'
    simp only [Bool.and_eq_true, List.all_eq_true] at hok'
    obtain ⟨⟨⟨hsmall, hpr⟩, hpb⟩, hna⟩ := hok'
    have hfl : ∀ v ∈ e.args, v.flat = true := by
     unfold vM at hsmall
     simp only [Bool.and_eq_true, List.all_eq_true] at hsmall
     exact hsmall.2
    obtain ⟨W, B, hBW, tk, hargs, hl⟩ := vG (ρ := ρ) (o0 := ρ.on) (o := ρ.on) (F := xG ρ e.peeks e.peekB) (fun y hy => .inl hy) h hxs hex (fun y hy => hy) hfl
    obtain ⟨o1, q1⟩ := tk.rep
    have hFB : ∀ y, xG ρ e.peeks e.peekB y -> y < w.heap.size /\ ¬ W y := by
     intro y hy
     rcases hy with hy | ⟨p, hp, hf, _⟩ | ⟨b, hb, rfl⟩
     ·exact ⟨(q1.Fbd y hy).1, fun hw => (tk.apart.here y hw).1 hy⟩
     ·obtain ⟨r, hr⟩ := Option.isSome_iff_exists.1 (hpr p hp)
      exact ⟨(q1.rF p.1 r (qI hr) y hf).2.1, fun hw => tk.apart.row p.1 r (qI hr) y hf hw⟩
     ·obtain ⟨x, hx⟩ := Option.isSome_iff_exists.1 (hpb b hb)
      refine ⟨?_, fun hw => tk.apart.box b x hx hw⟩
      obtain ⟨arr, fr, k1, _⟩ := q1.boxes b x hx
      exact k1.lt
    unfold Oper.wp
    rw [hrun]
    refine hcall f e.args _ hcallf hsmall xs w (xG ρ e.peeks e.peekB) B (h.tabNow.step (fun y hy => .inl hy) fun _ _ _ => rfl) hargs (fun y hy => (hFB y hy).1) (fun y hy => ⟨fun hf => (hFB y hf).2 (hBW y hy), (tk.apart.here y (hBW y hy)).2.1⟩) o a _ Q ?_
    intro v r w' hK hpost
    split at hK
    ·rename_i sv st' him
     obtain ⟨ρ', h1, h2⟩ := qFX q1 tk.apart hBW hl (yN hex) hok hpost him
     exact ⟨ρ', _, h1.setO hd h2, hK⟩
    ·exact hK.elim
  ·exact he'.elim
 ·exact he'.elim
end
theorem qJ0 {c : CV} (h : c.isRow = true) : ∃ r, c = .row r := by
 cases c <;> first | exact ⟨_, rfl⟩ | (simp [CV.isRow] at h)
def Old (i : Nat) (c : CV) : Prop := (∀ d, c.says (CV.speaks d) = true -> d < 32 * i \/ (1000000 <= d /\ d < qR i)) /\ ∀ b, c.says (CV.pts b) = true -> b < i \/ (1000 <= b /\ b % 1000 < i)
theorem Old.mono {i j : Nat} {c : CV} (h : i <= j) (hc : Old i c) : Old j c :=
 ⟨fun d hd => (hc.1 d hd).imp (fun h' => by omega) fun h' => ⟨h'.1, by unfold qR at *; omega⟩, fun b hb => by have := hc.2 b hb; omega⟩
def OB (b : Nat) (c : CV) : Prop := (∀ d, c.says (CV.speaks d) = true -> d < qR b) /\ ∀ p, c.says (CV.pts p) = true -> p % 1000 ≠ b % 1000 \/ p < b
theorem OB.mono {b : Nat} {c : CV} (hc : OB b c) : OB (b + 1000) c :=
 ⟨fun d hd => by have := hc.1 d hd; unfold qR at *; omega, fun p hp => by have := hc.2 p hp; omega⟩
theorem Old.OB {i : Nat} {c : CV} (hi : i < 1000) (hc : Old i c) : OB (i + 1000) c :=
 ⟨fun d hd => by have := hc.1 d hd; unfold qR at *; omega, fun p hp => by have := hc.2 p hp; omega⟩
theorem qFG {i : Nat} {c : CV} (h : c.plain = true) : Old i c :=
 ⟨fun d hd => (by rw [(kP h).1 d] at hd; cases hd), fun b hb => (by rw [(kP h).2 b] at hb; cases hb)⟩
section
variable {φ : Fix} {ρ : Env} {st : St} {a : Act} {w : World}
theorem wM {base : Nat} : ∀ {cs : List CV} {vs : List Value} {j : Nat} {st : St} {F B : Nat -> Prop}, Sep (BC0 F w) cs B vs ->
  ∀ (k : Nat) (c : CV), (qK st base j cs).1[k]? = some c -> c = .own (base + j + k) \/ c.plain = true
 | [], [], j, st, F, B, _, k, c, hc => by simp [qK] at hc
 | x :: cs, v :: vs, j, st, F, B, h, k, c, hc => by
  obtain ⟨B1, B2, _, _, h1, h2⟩ := h
  have plain : (∀ r, x ≠ .row r) -> (x :: (qK st base (j + 1) cs).1)[k]? = some c -> c = .own (base + j + k) \/ c.plain = true := by
   intro hn hm
   cases k with
   | zero =>
    simp only [List.getElem?_cons_zero, Option.some.injEq] at hm
    subst hm
    right
    cases x <;> first | exact h1.1 | exact absurd rfl (hn _)
   | succ k =>
    rcases wM h2 k c (by simpa using hm) with h | h
    ·left; rw [h]; congr 1; omega
    ·exact .inr h
  cases x with
  | row r =>
   simp only [qK] at hc
   cases k with
   | zero => simp only [List.getElem?_cons_zero, Option.some.injEq] at hc; left; rw [<- hc]; rfl
   | succ k =>
    rcases wM h2 k c (by simpa using hc) with h | h
    ·left; rw [h]; congr 1; omega
    ·exact .inr h
  | _ => exact plain (fun r => by intro e; cases e) hc
theorem xS {base : Nat} : ∀ {cs : List CV} {j : Nat} {st : St}, (qK st base j cs).1.length = cs.length
 | [], j, st => rfl
 | x :: cs, j, st => by cases x <;> simp [qK, xS]
theorem Rep.lend (h : Rep φ ρ st a w) {l : List Nat} (hl : ∀ d ∈ l, ρ.val d = φ.val0 d) : Rep φ ρ { st with lentR := l ++ st.lentR } a w :=
 { h with
  lentR := fun d hd => by
   rcases List.mem_append.1 hd with hd | hd
   ·exact hl d hd
   ·exact h.lentR d hd }
theorem Rep.lendB (h : Rep φ ρ st a w) {b : Nat} (hl : ρ.blk b = φ.blk0 b) : Rep φ ρ { st with lentB := b :: st.lentB } a w :=
 { h with
  lentB := fun d hd => by
   rcases List.mem_cons.1 hd with rfl | hd
   ·exact hl
   ·exact h.lentB d hd }
def qB4 (φ : Fix) (i : Nat) (v : Value) : Prop := (∀ j x, v.cells.toList[j]? = some x -> φ.val0 (32 * i + j) = x) /\ (∀ b, v = .pointer (some ⟨b, 0, none⟩) -> φ.blk0 i = b) /\ ∀ k b, (qIV v)[k]? = some (.pointer (some ⟨b, 0, none⟩)) -> φ.blk0 (i + 1000 * (k + 1)) = b
structure Ent (φ : Fix) (ρ ρ' : Env) (st st' : St) (a : Act) (w : World) (Z : Nat -> Prop) (i : Nat) : Prop where
 rep : Rep φ ρ' st' a w
 F : ρ'.F = ρ.F
 apart : ∀ Z0, qL φ ρ st w Z0 -> (∀ y, Z0 y -> ¬ Z y) -> qL φ ρ' st' w Z0
 moves : ∀ c, Old i c -> jS ρ ρ' w w c
 slots : st'.slots = st.slots.map fun s => (s.1, s.2)
theorem qBr {i lo hi : Nat} {c : CV} (h : Old i c) (hl : (32 * i <= lo /\ hi <= 1000000) \/ qR i <= lo) : c.says (CV.within lo hi) = false := by
 rw [Bool.eq_false_iff]
 intro hh
 obtain ⟨d, q1, q2, q3⟩ := jJ.1 hh
 rcases h.1 d q3 with h' | h' <;> rcases hl with hl | hl
 ·omega
 ·unfold qR at hl; omega
 ·omega
 ·omega
theorem qFs {R : CV -> Value -> Prop} {n : Nat} : ∀ {cs ds : List CV} {vs : List Value}, cs.length = ds.length -> jN R ds vs -> Shaped R (cs.map fun _ => (false, n)) ds vs
 | [], [], [], _, _ => ⟨rfl, rfl⟩
 | c :: cs, d :: ds, v :: vs, hl, h => ⟨h.1, qFs (by simpa using hl) h.2⟩
theorem qA7 {i : Nat} (hi : i < 1000) : ∀ {cs : List CV} {vs : List Value} {b : Nat} {ρ : Env} {st : St} {B : Nat -> Prop}, Rep φ ρ st a w -> qL φ ρ st w B -> Sep (BC ρ.F w) cs B vs ->
  (∀ c ∈ cs, ∃ e ds, c = CV.boxr e ds) -> b % 1000 = i -> 1000 <= b -> (∀ k nb, vs[k]? = some (.pointer (some ⟨nb, 0, none⟩)) -> φ.blk0 (b + 1000 * k) = nb) ->
  ∃ ρ', Rep φ ρ' (vU st b cs).2 a w /\ ρ'.F = ρ.F /\ (∀ Z0, qL φ ρ st w Z0 -> (∀ y, Z0 y -> ¬ B y) -> qL φ ρ' (vU st b cs).2 w Z0) /\ (∀ c, OB b c -> jS ρ ρ' w w c) /\
   jN (zP ρ' w) (vU st b cs).1 vs /\ (vU st b cs).1.length = cs.length /\ ∀ c ∈ (vU st b cs).1, (∃ p, c = .pbox p 0 /\ 1000 <= p /\ p % 1000 = i)
 | [], [], b, ρ, st, B, h, _, _, _, _, _, _ => ⟨ρ, h, rfl, fun _ h _ => h, fun c _ => jS.same (fun S => qG.refl S w) c, trivial, rfl, fun c hc => by cases hc⟩
 | c :: cs, x :: vs, b, ρ, st, B, h, hB, hs, hb, hbi, hb1, hp => by
  obtain ⟨e, ds, rfl⟩ := hb c List.mem_cons_self
  obtain ⟨B1, B2, d1, d2, h1, h2⟩ := hs
  obtain ⟨nb, arr, fr, B3, q1, q2, q3, q4, q5, q6⟩ := (h1 : BC ρ.F w (.boxr e ds) B1 x)
  obtain ⟨ρ1, p, q⟩ := zD (base := qR b) (j := 0) h (hB.sub fun y hy => (d1 y (q5 y hy).1).1) q6
  have hap : qL φ ρ1 (qK st (qR b) 0 ds).2 w fun y => y = nb := p.apart _ (hB.sub fun y hy => by subst hy; exact (d1 _ q4).1) fun y hy hh => by subst hy; exact (q5 _ hh).2 rfl
  have r2 := p.rep.newBox (b := b) (x := { e := e, cs := (qK st (qR b) 0 ds).1, ro := false }) hap rfl q2 q3 q (wU q6)
  have r3 := r2.lendB (b := b) (by simp only [Env.setBlk, if_true]; exact (hp 0 nb (by rw [q1]; rfl)).symm)
  have apx : ∀ Z0, qL φ ρ st w Z0 -> (∀ y, Z0 y -> ¬ B1 y) -> qL φ (ρ1.setBlk b nb) ((qK st (qR b) 0 ds).2.newBox b { e := e, cs := (qK st (qR b) 0 ds).1, ro := false }) w Z0 := by
   intro Z0 h0 hz
   have h1 := p.apart Z0 h0 fun y hy hh => hz y hy (q5 y hh).1
   refine ⟨h1.row, fun b' x' hx' hy => ?_, h1.here⟩
   simp only [St.newBox, qP] at hx'
   by_cases hb : b' = b
   ·subst hb
    simp only [Env.setBlk, if_true] at hy
    exact hz _ hy q4
   ·rw [if_neg hb] at hx'
    obtain ⟨y', hy', _⟩ := qM hx'
    simp only [Env.setBlk, if_neg hb] at hy
    exact h1.box b' y' hy' hy
  have mv : ∀ c, OB b c -> jS ρ (ρ1.setBlk b nb) w w c := fun c hc => by
   refine (p.moves c ?_).trans (jS.setBlk ?_)
   ·rw [Bool.eq_false_iff]
    intro hh
    obtain ⟨d, g1, g2, g3⟩ := jJ.1 hh
    have := hc.1 d g3
    omega
   ·rw [Bool.eq_false_iff]
    intro hh
    have := hc.2 b hh
    omega
  have apx' : ∀ Z0, qL φ ρ st w Z0 -> (∀ y, Z0 y -> ¬ B1 y) -> qL φ (ρ1.setBlk b nb) { ((qK st (qR b) 0 ds).2.newBox b { e := e, cs := (qK st (qR b) 0 ds).1, ro := false }) with lentB := b :: ((qK st (qR b) 0 ds).2.newBox b { e := e, cs := (qK st (qR b) 0 ds).1, ro := false }).lentB } w Z0 :=
   fun Z0 h0 hz => ⟨(apx Z0 h0 hz).row, (apx Z0 h0 hz).box, (apx Z0 h0 hz).here⟩
  have hF : (ρ1.setBlk b nb).F = ρ.F := p.F
  obtain ⟨ρ2, r4, f4, a4, m4, s4, l4, n4⟩ := qA7 hi (b := b + 1000) r3 (apx' B2 (hB.sub d2) fun y hy hh => (d1 y hh).2 hy) (h2.imp fun _ _ _ _ hh => by rw [hF]; exact hh) (fun c hc => hb c (List.mem_cons_of_mem _ hc)) (by omega) (by omega)
   (fun k nb' hk => by have := hp (k + 1) nb' (by simpa using hk); rw [show b + 1000 + 1000 * k = b + 1000 * (k + 1) by omega]; exact this)
  refine ⟨ρ2, r4, f4.trans hF, fun Z0 h0 hz => a4 Z0 (apx' Z0 h0 fun y hy hh => hz y hy (d1 y hh).1) (fun y hy hh => hz y hy (d2 y hh)), fun c hc => (mv c hc).trans (m4 c hc.mono), ⟨?_, s4⟩, by simpa [vU] using l4, fun c hc => ?_⟩
  ·have hsv : zP (ρ1.setBlk b nb) w (.pbox b 0) x := by
    show x = .pointer (some ⟨(ρ1.setBlk b nb).blk b, 0, none⟩)
    rw [q1]; simp [Env.setBlk]
   have hcv := jU (m4 (.pbox b 0) ⟨fun d hd => by simp [CV.says, CV.speaks] at hd, fun p hp => by
    simp only [CV.says, CV.pts, Bool.or_false, beq_iff_eq] at hp
    omega⟩) (vB hsv)
   exact hcv
  ·rcases List.mem_cons.1 (show c ∈ CV.pbox b 0 :: _ from hc) with rfl | hc
   ·exact ⟨b, rfl, hb1, hbi⟩
   ·exact n4 c hc
theorem qKm {i m : Nat} {v : SV} {x : Value} {B : Nat -> Prop} (h : Rep φ ρ st a w) (hB : qL φ ρ st w B) (hv : BV ρ.F w v B x) (hfl : v.flat = true) (hi : i < 1000) (hp : qB4 φ i x) :
  ∃ ρ', Rep φ ρ' (qAr st i m v).2 a w /\ ρ'.F = ρ.F /\ (∀ Z0, qL φ ρ st w Z0 -> (∀ y, Z0 y -> ¬ B y) -> qL φ ρ' (qAr st i m v).2 w Z0) /\ (∀ c, Old i c -> jS ρ ρ' w w c) /\
   SVR ρ' w (qAr st i m v).1 x /\ ∀ c ∈ (qAr st i m v).1.all, Old (i + 1) c := by
 cases v with
 | c y =>
  rcases kJ (show BC ρ.F w y B x from hv) with ⟨e, cs, rfl⟩ | ⟨hn, h0⟩
  ·obtain ⟨nb, arr, fr, B1, q1, q2, q3, q4, q5, q6⟩ := (hv : BC ρ.F w (.boxr e cs) B x)
   simp only [SV.flat, decide_eq_true_eq] at hfl
   simp only [qAr]
   obtain ⟨ρ', p, q⟩ := zD (base := qR i) (j := 0) h (hB.sub fun y hy => (q5 y hy).1) q6
   have hap : qL φ ρ' (qK st (qR i) 0 cs).2 w fun y => y = nb := p.apart _ (hB.sub fun y hy => by subst hy; exact q4) fun y hy hh => by subst hy; exact (q5 _ hh).2 rfl
   have r2 := p.rep.newBox (b := i) (x := { e := e, cs := (qK st (qR i) 0 cs).1, ro := false }) hap rfl q2 q3 q (wU q6)
   have apx : ∀ Z0, qL φ ρ st w Z0 -> (∀ y, Z0 y -> ¬ B y) -> qL φ (ρ'.setBlk i nb) ((qK st (qR i) 0 cs).2.newBox i { e := e, cs := (qK st (qR i) 0 cs).1, ro := false }) w Z0 := by
    intro Z0 h0 hz
    have h1 := p.apart Z0 h0 fun y hy hh => hz y hy (q5 y hh).1
    refine ⟨h1.row, fun b' x' hx' hy => ?_, h1.here⟩
    simp only [St.newBox, qP] at hx'
    by_cases hb : b' = i
    ·subst hb
     simp only [Env.setBlk, if_true] at hy
     exact hz _ hy q4
    ·rw [if_neg hb] at hx'
     obtain ⟨y', hy', _⟩ := qM hx'
     simp only [Env.setBlk, if_neg hb] at hy
     exact h1.box b' y' hy' hy
   have mv : ∀ c, Old i c -> jS ρ (ρ'.setBlk i nb) w w c := fun c hc => by
    refine (p.moves c (qBr hc (.inr (by omega)))).trans (jS.setBlk ?_)
    rw [Bool.eq_false_iff]
    intro hh
    have := hc.2 i hh
    omega
   have hsv : SVR (ρ'.setBlk i nb) w (.c (.pbox i 0)) x := by
    show x = .pointer (some ⟨(ρ'.setBlk i nb).blk i, 0, none⟩)
    rw [q1]; simp [Env.setBlk]
   have hold : ∀ c ∈ (SV.c (.pbox i 0)).all, Old (i + 1) c := fun c hc => by
    simp only [SV.all, List.mem_singleton] at hc
    subst hc
    exact ⟨fun d hd => by simp [CV.says, CV.speaks] at hd, fun b hb => by
     simp only [CV.says, CV.pts, Bool.or_false, beq_iff_eq] at hb
     omega⟩
   by_cases hm : m = 1
   ·simp only [if_pos hm]
    refine ⟨ρ'.setBlk i nb, r2.lendB ?_, p.F, fun Z0 h0 hz => ⟨(apx Z0 h0 hz).row, (apx Z0 h0 hz).box, (apx Z0 h0 hz).here⟩, mv, hsv, hold⟩
    simp only [Env.setBlk, if_true]
    exact (hp.2.1 nb q1).symm
   ·simp only [if_neg hm]
    exact ⟨ρ'.setBlk i nb, r2, p.F, apx, mv, hsv, hold⟩
  ·have hs : Sep (BC0 ρ.F w) [y] B [x] := Sep.one h0
   obtain ⟨ρ', p, q⟩ := zD (base := 32 * i) (j := 0) h hB hs
   have nm := wM (base := 32 * i) (st := st) (j := 0) hs
   have hlen := xS (base := 32 * i) (j := 0) (st := st) (cs := [y])
   obtain ⟨z, hys⟩ : ∃ z, (qK st (32 * i) 0 [y]).1 = [z] := by
    cases y <;> exact ⟨_, rfl⟩
   have e : qAr st i m (.c y) = (.c z, { (qK st (32 * i) 0 [y]).2 with lentR := if y.isRow = true /\ m = 1 then (32 * i) :: (qK st (32 * i) 0 [y]).2.lentR else (qK st (32 * i) 0 [y]).2.lentR }) := by
    have e1 : qAr st i m (.c y) = (match qK st (32 * i) 0 [y] with
     | ([y'], st') => (.c y', { st' with lentR := if y.isRow = true /\ m = 1 then (32 * i) :: st'.lentR else st'.lentR })
     | (_, st') => (.undef, st')) := by
     cases y with
     | boxr e cs => exact absurd rfl (hn e cs)
     | _ => rfl
    rw [e1]
    generalize qK st (32 * i) 0 [y] = pr at hys
    obtain ⟨l, s'⟩ := pr
    simp only at hys
    subst hys
    rfl
   rw [e]
   have mv : ∀ c, Old i c -> jS ρ ρ' w w c := fun c hc => p.moves c (qBr hc (.inl ⟨by omega, by simp; omega⟩))
   have hz : z = .own (32 * i) \/ z.plain = true := by
    have := nm 0 z (by rw [hys]; rfl)
    simpa using this
   have qz : CVR ρ' w z x := by rw [hys] at q; exact q.1
   have hold : ∀ c ∈ (SV.c z).all, Old (i + 1) c := fun c hc => by
    simp only [SV.all, List.mem_singleton] at hc
    subst hc
    rcases hz with hz | hz
    ·subst hz
     exact ⟨fun d hd => by
      simp only [CV.says, CV.speaks, Bool.or_false, beq_iff_eq] at hd
      left; omega, fun b hb => by simp [CV.says, CV.pts] at hb⟩
    ·exact qFG hz
   simp only
   split
   ·rename_i hm
    have hzz : z = .own (32 * i) := by
     obtain ⟨r, rfl⟩ := qJ0 hm.1
     have h1 : [CV.own (32 * i + 0)] = [z] := hys
     simpa using h1.symm
    subst hzz
    refine ⟨ρ', p.rep.lend (l := [32 * i]) (fun d hd => ?_), p.F, fun Z0 h0 hz => ⟨(p.apart Z0 h0 hz).row, (p.apart Z0 h0 hz).box, (p.apart Z0 h0 hz).here⟩, mv, qz, hold⟩
    simp only [List.mem_singleton] at hd
    subst hd
    have hc1 : x.cells = #[x] := by
     have := xV qz
     cases x <;> simp_all [Value.cells, Value.oneCell']
    have := hp.1 0 x (by rw [hc1]; rfl)
    rw [Nat.add_zero] at this
    rw [this]; exact qz.1.symm
   ·exact ⟨ρ', p.rep, p.F, fun Z0 h0 hz => p.apart Z0 h0 hz, mv, qz, hold⟩
 | agg xs =>
  obtain ⟨arr, rfl, hs⟩ := hv
  simp only [SV.flat, Bool.and_eq_true, decide_eq_true_eq] at hfl
  obtain ⟨ρ', p, q⟩ := zD (base := 32 * i) (j := 0) h hB hs
  have nm := wM (base := 32 * i) (st := st) (j := 0) hs
  have hlen := xS (base := 32 * i) (j := 0) (st := st) (cs := xs)
  have mv : ∀ c, Old i c -> jS ρ ρ' w w c := fun c hc => p.moves c (qBr hc (.inl ⟨by omega, by omega⟩))
  have hold : ∀ c ∈ (SV.agg (qK st (32 * i) 0 xs).1).all, Old (i + 1) c := fun c hc => by
   obtain ⟨k, hk⟩ := List.mem_iff_getElem?.1 (show c ∈ (qK st (32 * i) 0 xs).1 from hc)
   have hkl : k < xs.length := by rw [<- hlen]; exact (List.getElem?_eq_some_iff.1 hk).1
   rcases nm k c hk with hz | hz
   ·subst hz
    exact ⟨fun d hd => by
     simp only [CV.says, CV.speaks, Bool.or_false, beq_iff_eq] at hd
     left; omega, fun b hb => by simp [CV.says, CV.pts] at hb⟩
   ·exact qFG hz
  simp only [qAr]
  by_cases hm : m = 1
  ·simp only [if_pos hm]
   refine ⟨ρ', p.rep.lend (fun d hd => ?_), p.F, fun Z0 h0 hz => ⟨(p.apart Z0 h0 hz).row, (p.apart Z0 h0 hz).box, (p.apart Z0 h0 hz).here⟩, mv, ⟨arr, rfl, q⟩, hold⟩
   obtain ⟨c, hc, hd⟩ := List.mem_filterMap.1 hd
   obtain ⟨k, hk⟩ := List.mem_iff_getElem?.1 hc
   obtain ⟨b, hb, hcb⟩ := q.get hk
   rcases nm k c hk with hz | hz
   ·subst hz
    simp only [Option.some.injEq] at hd
    subst hd
    have := hp.1 k b hb
    rw [Nat.add_zero, this]
    exact hcb.1.symm
   ·cases c <;> simp [CV.plain, CV.plain0] at hz hd
  ·simp only [if_neg hm]
   exact ⟨ρ', p.rep, p.F, fun Z0 h0 hz => p.apart Z0 h0 hz, mv, ⟨arr, rfl, q⟩, hold⟩
 | clo f n cs =>
  obtain ⟨first, caps, rfl, h2, h3⟩ := hv
  simp only [SV.flat, Bool.and_eq_true, decide_eq_true_eq, List.all_eq_true] at hfl
  obtain ⟨ρ', r, f1, a1, m1, s1, l1, n1⟩ := qA7 hi (b := i + 1000) h hB h3 (fun c hc => by
   have := hfl.2 c hc
   cases c <;> first | exact ⟨_, _, rfl⟩ | cases this) (by omega) (by omega) (fun k nb hk => by
   have := hp.2.2 k nb hk
   rw [show i + 1000 + 1000 * k = i + 1000 * (k + 1) by omega]; exact this)
  refine ⟨ρ', r, f1, a1, fun c hc => m1 c (hc.OB hi), ⟨first, caps, rfl, h2, qFs l1.symm s1⟩, fun c hc => ?_⟩
  simp only [qAr, SV.all, List.mem_singleton] at hc
  subst hc
  refine ⟨fun d hd => ?_, fun b hb => ?_⟩
  ·simp only [CV.says, CV.speaks, Bool.false_or, List.any_eq_true] at hd
   obtain ⟨c, hc, hd⟩ := hd
   obtain ⟨p, rfl, _⟩ := n1 c hc
   simp [CV.speaks] at hd
  ·simp only [CV.says, CV.pts, Bool.or_eq_true, List.any_eq_true] at hb
   rcases hb with ⟨c, hc, hb⟩ | ⟨c, hc, hb⟩
   ·obtain ⟨p, rfl, hp1, hp2⟩ := n1 c hc
    simp only [beq_iff_eq] at hb
    omega
   ·obtain ⟨p, rfl, hp1, hp2⟩ := n1 c hc
    simp only [CV.pts, beq_iff_eq] at hb
    omega
 | undef => exact hv.elim
 | tup _ => exact hv.elim
theorem qD3 : ∀ {vs : List SV} {xs : List Value} {ms : List Nat} {i : Nat} {ρ : Env} {st : St} {B : Nat -> Prop}, Rep φ ρ st a w -> qL φ ρ st w B -> Sep (BV ρ.F w) vs B xs -> (∀ v ∈ vs, v.flat = true) -> i + vs.length <= 1000 -> (∀ k x, xs[k]? = some x -> qB4 φ (i + k) x) ->
  ∃ ρ', Rep φ ρ' (qBB st i ms vs).2 a w /\ ρ'.F = ρ.F /\ (∀ c, Old i c -> jS ρ ρ' w w c) /\ jN (SVR ρ' w) (qBB st i ms vs).1 xs
 | [], [], ms, i, ρ, st, B, h, _, _, _, _, _ => ⟨ρ, h, rfl, fun c _ => jS.same (fun S => qG.refl S w) c, trivial⟩
 | v :: vs, x :: xs, ms, i, ρ, st, B, h, hB, hs, hfl, hi, hp => by
  obtain ⟨B1, B2, d1, d2, h1, h2⟩ := hs
  simp only [List.length_cons] at hi
  obtain ⟨ρ1, r1, f1, a1, m1, s1, o1⟩ := qKm (i := i) (m := ms.headD 0) h (hB.sub fun y hy => (d1 y hy).1) h1 (hfl v List.mem_cons_self) (by omega) (by have := hp 0 x rfl; simpa using this)
  obtain ⟨ρ2, r2, f2, m2, s2⟩ := qD3 (ms := ms.drop 1) r1 (a1 B2 (hB.sub d2) fun y hy hh => (d1 y hh).2 hy) (h2.imp fun _ _ _ _ hh => by rw [f1]; exact hh) (fun u hu => hfl u (List.mem_cons_of_mem _ hu)) (i := i + 1) (by omega)
   (fun k y hy => by have := hp (k + 1) y (by simpa using hy); rw [show i + 1 + k = i + (k + 1) by omega]; exact this)
  exact ⟨ρ2, r2, f2.trans f1, fun c hc => (m1 c hc).trans (m2 c (hc.mono (by omega))), kI (fun c hc => m2 c (o1 c hc)) s1, s2⟩
theorem qA0 : ∀ {ws : List SV} {i s : Nat} {v : SV}, qO s (qAa i ws) = some v -> ∃ k, s = i + k /\ ws[k]? = some v
 | [], i, s, v, h => by simp [qAa, qO] at h
 | x :: ws, i, s, v, h => by
  simp only [qAa, qO] at h
  split at h
  ·rename_i hs
   simp only [Option.some.injEq] at h
   exact ⟨0, by omega, by simp [h]⟩
  ·obtain ⟨k, h1, h2⟩ := qA0 h
   exact ⟨k + 1, by omega, by simpa using h2⟩
theorem qLL {args : List SV} {vs : List Value} {ms : List Nat} {F B : Nat -> Prop} {nt : Nat} (htab : TabOK F w) (hs : Sep (BV F w) args B vs) (hsmall : vM args = true) (hF : ∀ y, F y -> y < w.heap.size) (hB : ∀ y, B y -> ¬ F y /\ y < w.heap.size) :
  ∃ φ ρ, φ.w0 = w /\ φ.B0 = B /\ φ.F0 = F /\ nt <= φ.N /\ (∀ k x, vs[k]? = some x -> qB4 φ k x) /\ Rep φ ρ (enter ms args) { tmps := vs.toArray ++ Array.replicate (nt - vs.toArray.size) undef, defers := [] } w := by
 unfold vM at hsmall
 simp only [Bool.and_eq_true, decide_eq_true_eq, List.all_eq_true] at hsmall
 obtain ⟨hlen, hfl⟩ := hsmall
 have hll := hs.length
 let φ : Fix := { N := vs.length + (nt - vs.length), w0 := w, B0 := B, val0 := fun d => ((vs.getD (d / 32) undef).cells.toList.getD (d % 32) undef), blk0 := fun i => match (if i < 1000 then vs.getD i undef else (qIV (vs.getD (i % 1000) undef)).getD (i / 1000 - 1) undef) with | .pointer (some b) => b.block | _ => 0, F0 := F }
 have h0 : Rep φ (bare F) { slots := [], rows := [], boxes := [] } { tmps := vs.toArray ++ Array.replicate (nt - vs.toArray.size) undef, defers := [] } w := {
  size := by simp [φ]
  nodef := rfl
  on := fun d hd => hd.elim
  slots := fun s v hv => by simp [qO] at hv
  rows := fun d r hd => by simp [qO] at hd
  boxes := fun b x hx => by simp [qO] at hx
  rsep := fun d d' r r' h1 => by simp [qO] at h1
  rF := fun d r h1 => by simp [qO] at h1
  rb := fun d r b x h1 => by simp [qO] at h1
  bsep := fun b b' x x' h1 => by simp [qO] at h1
  bF := fun b x h1 => by simp [qO] at h1
  Fbd := fun y hy => ⟨hF y hy, .inl hy⟩
  F0 := fun y hy => hy
  grow := Nat.le_refl _
  io := zS.refl w
  tab := ⟨htab, fun y hy => (hB y hy).1⟩
  keep := fun _ _ _ => rfl
  lentR := fun d hd => by cases hd
  lentB := fun d hd => by cases hd }
 have hap : qL φ (bare F) { slots := [], rows := [], boxes := [] } w B := ⟨fun d r hd => by simp [qO] at hd, fun b x hx => by simp [qO] at hx, fun y hy => ⟨(hB y hy).1, (hB y hy).2, .inl hy⟩⟩
 have few : ∀ (k : Nat) x, vs[k]? = some x -> x.cells.size <= 32 := by
  have go : ∀ (l : List SV) (C : Nat -> Prop) (r : List Value), Sep (BV F w) l C r -> (∀ v ∈ l, v.flat = true) -> ∀ (k : Nat) x, r[k]? = some x -> x.cells.size <= 32 := by
   intro l
   induction l with
   | nil => intro C r h _ k x hx; cases r with
    | nil => simp at hx
    | cons _ _ => exact h.elim
   | cons v l ih =>
    intro C r h hfl k x hx
    cases r with
    | nil => exact h.elim
    | cons y r =>
     obtain ⟨C1, C2, _, _, h1, h2⟩ := h
     cases k with
     | zero =>
      simp only [List.getElem?_cons_zero, Option.some.injEq] at hx
      subst hx
      have hf := hfl v List.mem_cons_self
      cases v with
      | c z =>
       have : y.cells.size = 1 := by
        rcases kJ (show BC F w z C1 y from h1) with ⟨e, cs, rfl⟩ | ⟨hn, h0⟩
        ·obtain ⟨b, arr, fr, D, q, _⟩ := (h1 : BC F w (.boxr e cs) C1 y); rw [q]; rfl
        ·have := qK9 h0
         cases y <;> simp_all [Value.cells, Value.oneCell']
       omega
      | agg xs =>
       obtain ⟨arr, rfl, hs⟩ := h1
       simp only [SV.flat, Bool.and_eq_true, decide_eq_true_eq] at hf
       have := hs.length
       simp only [Array.length_toList] at this
       show arr.size <= 32
       omega
      | clo f n cs =>
       obtain ⟨first, caps, rfl, _⟩ := h1
       show 1 <= 32
       decide
      | undef => exact h1.elim
      | tup _ => exact h1.elim
     | succ k => exact ih C2 r h2 (fun u hu => hfl u (List.mem_cons_of_mem _ hu)) k x (by simpa using hx)
  exact go args B vs hs hfl
 have placed : ∀ (k : Nat) x, vs[k]? = some x -> qB4 φ k x := by
  intro k x hx
  have hk1 : k < 1000 := by
   have := (List.getElem?_eq_some_iff.1 hx).1
   omega
  refine ⟨fun j y hy => ?_, fun b hb => ?_, fun j b hb => ?_⟩
  ·have hj : j < 32 := by
    have := (List.getElem?_eq_some_iff.1 hy).1
    simp only [Array.length_toList] at this
    have := few k x hx
    omega
   show ((vs.getD ((32 * k + j) / 32) undef).cells.toList.getD ((32 * k + j) % 32) undef) = y
   rw [show (32 * k + j) / 32 = k by omega, show (32 * k + j) % 32 = j by omega]
   rw [List.getD_eq_getElem?_getD, List.getD_eq_getElem?_getD, hx]
   simp only [Option.getD_some, hy]
  ·show (match (if k < 1000 then vs.getD k undef else (qIV (vs.getD (k % 1000) undef)).getD (k / 1000 - 1) undef) with | .pointer (some b) => b.block | _ => 0) = b
   rw [if_pos hk1, List.getD_eq_getElem?_getD, hx, hb]
   rfl
  ·have e : ∀ i, φ.blk0 i = match (if i < 1000 then vs.getD i undef else (qIV (vs.getD (i % 1000) undef)).getD (i / 1000 - 1) undef) with | .pointer (some b) => b.block | _ => 0 := fun i => rfl
   rw [e, if_neg (by omega), show (k + 1000 * (j + 1)) % 1000 = k by omega, show (k + 1000 * (j + 1)) / 1000 - 1 = j by omega, List.getD_eq_getElem?_getD, List.getD_eq_getElem?_getD, hx]
   simp only [Option.getD_some, hb]
 obtain ⟨ρ', r', f', _, s'⟩ := qD3 (ms := ms) (i := 0) h0 hap hs hfl (by omega) (fun k x hx => by rw [Nat.zero_add]; exact placed k x hx)
 refine ⟨φ, ρ', rfl, rfl, rfl, by show nt <= vs.length + (nt - vs.length); omega, placed, ?_⟩
 have hvl := s'.length
 show Rep φ ρ' { (qBB { slots := [], rows := [], boxes := [] } 0 ms args).2 with slots := qAa 0 (qBB { slots := [], rows := [], boxes := [] } 0 ms args).1 } _ w
 exact { r' with
  slots := fun s v hv => by
   obtain ⟨k, rfl, hk⟩ := qA0 hv
   obtain ⟨x, hx, hsx⟩ := s'.get hk
   have hkl := (List.getElem?_eq_some_iff.1 hx).1
   refine ⟨by show 0 + k < vs.length + (nt - vs.length); omega, ?_⟩
   have : (vs.toArray ++ Array.replicate (nt - vs.toArray.size) undef).getD (0 + k) undef = x := by
    rw [Nat.zero_add, Array.getD_eq_getD_getElem?, Array.getElem?_append_left (by simpa using hkl)]
    simp [hx]
   show SVR ρ' w v ((vs.toArray ++ Array.replicate (nt - vs.toArray.size) undef).getD (0 + k) undef)
   rw [this]; exact hsx }
end
section
variable {φ : Fix} {ρ : Env} {st : St} {a : Act} {w : World} {P : Program} {C : Ctx}
structure qAI (φ : Fix) (ρ ρ' : Env) (st st' : St) (a : Act) (w : World) (B : Nat -> Prop) : Prop where
 rep : Rep φ ρ' st' a w
 sim : ρ.Sim ρ'
 apart : qL φ ρ' st' w B
 keep : ∀ B0, qL φ ρ st w B0 -> qL φ ρ' st' w B0 /\ ∀ y, B0 y -> ¬ B y
theorem qAI.refl (h : Rep φ ρ st a w) : qAI φ ρ ρ st st a w (fun _ => False) := ⟨h, Env.Sim.refl ρ, qL.none _ _ _ _, fun B0 h0 => ⟨h0, fun _ _ h => h⟩⟩
theorem qAI.trans {ρ1 ρ2 : Env} {st1 st2 : St} {B1 B2 : Nat -> Prop} (h : qAI φ ρ ρ1 st st1 a w B1) (h' : qAI φ ρ1 ρ2 st1 st2 a w B2) : qAI φ ρ ρ2 st st2 a w (fun y => B1 y \/ B2 y) /\ ∀ y, B1 y -> ¬ B2 y := by
 obtain ⟨k1, k2⟩ := h'.keep B1 h.apart
 refine ⟨⟨h'.rep, h.sim.trans h'.sim, k1.or h'.apart, fun B0 h0 => ?_⟩, k2⟩
 obtain ⟨q1, q2⟩ := h.keep B0 h0
 obtain ⟨q3, q4⟩ := h'.keep B0 q1
 exact ⟨q3, fun y hy hh => hh.elim (q2 y hy) (q4 y hy)⟩
theorem qKp {F : Nat -> Prop} {e : TypeId} {t : Ty} {l : List t.T} {v : Value} {G : Nat -> Prop} (h : qDt F w t l v) : BC0 F w (.dat e t l) G v := ⟨rfl, h⟩
theorem qGw {F : Nat -> Prop} {e : TypeId} {t : Ty} {l : List t.T} {B : Nat -> Prop} {v : Value} (h : qN F w (.sl e t) 0 l B [v]) : qDt F w t l v := by
 rw [qN, kD] at h
 obtain ⟨v', e1, h⟩ := h
 simp only [List.cons.injEq, and_true] at e1
 rw [e1]; exact h
theorem qGW {ρ0 : Env} (h : Rep φ ρ st a w) (hs : ρ0.Sim ρ) {c c' : CV} {v : Value} {rs rs' : List (Option Nat)} {st' : St} (hc : CVR ρ0 w c v) (he : qGX st rs c = some (c', st', rs')) : ∃ ρ' B, qAI φ ρ ρ' st st' a w B /\ BC0 ρ'.F w c' B v := by
 have plain : c.plain = true -> c' = c -> st' = st -> ∃ ρ' B, qAI φ ρ ρ' st st' a w B /\ BC0 ρ'.F w c' B v := by
  rintro hp rfl rfl
  exact ⟨ρ, _, qAI.refl h, qAE (ρ := ρ0) hp hs.F hc⟩
 have read : ∀ {e : TypeId} {t : Ty} {l : List t.T} {m : Nat}, qAx st c = some (.dat e t l, m, st') -> m = 0 -> c' = .dat e t l -> ∃ ρ' B, qAI φ ρ ρ' st st' a w B /\ BC0 ρ'.F w c' B v := by
  rintro e t l m h1 rfl rfl
  obtain ⟨ρ', B, q1, q2, q3, q4, q5⟩ := qHA h hs hc h1
  exact ⟨ρ', B, ⟨q1, q4, q3, q5⟩, qKp (qGw (B := B) (show qN ρ'.F w (.sl e t) 0 l B [v] from q2))⟩
 cases c with
 | own d =>
  simp only [qGX] at he
  split at he
  ·rename_i r hr
   split at he
   ·cases he
   ·have hd := qI hr
    obtain ⟨p1, p2, p3, p4⟩ := h.rows d r hd
    have p1 : r.hole = none := qJ hr
    have p3 := kX.whole p1 p3
    have hv : v = ρ.val d := by rw [hs.val]; exact hc.1
    have sim : ∀ G, ρ.Sim ((ρ.off d).addF G) := fun G => ⟨fun y hy => .inl hy, rfl, rfl, rfl, fun _ _ h => h⟩
    split at he
    ·simp only [Option.some.injEq, Prod.mk.injEq] at he
     obtain ⟨rfl, rfl, rfl⟩ := he
     have h1 := (h.dropRow d).addF (G := ρ.ft d) (h.take hd)
     refine ⟨_, fun _ => False, ⟨h1, sim _, qL.none _ _ _ _, fun B0 hB => ⟨(hB.dropRow d).addF fun y hy hy' => hB.row d r hd y hy' hy, fun _ _ h => h⟩⟩, ?_⟩
     rw [hv]
     have := xU p3
     rw [kD] at this
     obtain ⟨v', e1, h2⟩ := this
     simp only [List.cons.injEq, and_true] at e1
     rw [e1]; exact qKp h2
    ·rename_i m _
     split at he
     ·rename_i hm
      simp only [Option.some.injEq, Prod.mk.injEq] at he
      obtain ⟨rfl, rfl, rfl⟩ := he
      obtain ⟨B', g1, _, _, g4⟩ := qBd hm p3
      have ap := h.take hd
      have h1 := (h.dropRow d).addF (G := fun y => ρ.ft d y /\ ¬ B' y) (ap.sub fun y hy => hy.1)
      refine ⟨_, B', ⟨h1, sim _, (ap.sub g1).addF fun y hy hg => hg.2 hy, fun B0 hB => ⟨(hB.dropRow d).addF fun y hy hy' => hB.row d r hd y hy'.1 hy, fun y hy hy' => hB.row d r hd y (g1 y hy') hy⟩⟩, ?_⟩
      rw [hv]
      exact ⟨p1, g4, p4⟩
     ·cases he
  ·cases he
 | emp e t =>
  obtain ⟨A, rfl⟩ := (hc : zP ρ0 w (.emp e t) v)
  simp only [qGX] at he
  split at he
  ·simp only [Option.some.injEq, Prod.mk.injEq] at he
   obtain ⟨rfl, rfl, rfl⟩ := he
   exact ⟨ρ, _, qAI.refl h, qKp ⟨A, 0, rfl, Nat.le_refl _, fun i hi => by simp at hi⟩⟩
  ·rename_i m _
   simp only [Option.some.injEq, Prod.mk.injEq] at he
   obtain ⟨rfl, rfl, rfl⟩ := he
   refine ⟨ρ, _, qAI.refl h, rfl, ?_, fun hh => absurd rfl hh⟩
   cases m with
   | zero =>
    show qN _ _ (.sl e t) 0 [] _ _
    rw [qN, kD]; exact ⟨_, rfl, A, 0, rfl, Nat.le_refl _, fun i hi => by simp at hi⟩
   | succ m =>
    show qN _ _ (.sl e t) (m + 1) [] _ _
    rw [qN]; exact ⟨_, rfl, A, 0, rfl, .inl ⟨rfl, rfl⟩⟩
 | nref d i off =>
  simp only [qGX] at he
  split at he
  ·rename_i r _ hr
   split at he
   ·rename_i s hsl
    simp only [Option.some.injEq, Prod.mk.injEq] at he
    obtain ⟨rfl, rfl, rfl⟩ := he
    refine read (m := 0) ?_ rfl rfl
    simp only [qAx, hr, hsl]
   ·cases he
  ·cases he
 | vw d lo hi =>
  simp only [qGX] at he
  split at he
  ·rename_i r hr
   split at he
   ·simp only [Option.some.injEq, Prod.mk.injEq] at he
    obtain ⟨rfl, rfl, rfl⟩ := he
    refine read (m := 0) ?_ rfl rfl
    simp only [qAx, hr]
   ·rename_i m _
    split at he
    ·cases he
    ·split at he
     ·rename_i hlo
      subst hlo
      split at he
      ·rename_i hm
       simp only [Option.some.injEq, Prod.mk.injEq] at he
       obtain ⟨rfl, rfl, rfl⟩ := he
       have hd := qI hr
       obtain ⟨p1, p2, p3, p4⟩ := h.rows d r hd
       have p1 : r.hole = none := qJ hr
       have p3 := kX.whole p1 p3
       have sim : ∀ G, ρ.Sim ((ρ.off d).addF G) := fun G => ⟨fun y hy => .inl hy, rfl, rfl, rfl, fun _ _ h => h⟩
       obtain ⟨a1, n, c1, a2, e1, _, h3, h4, e2, e3⟩ := (hc : zP ρ0 w (.vw d 0 hi) v)
       rw [<- hs.val] at e1
       obtain ⟨B', g1, _, _, g4⟩ := qBd hm.2 p3
       have ap := h.take hd
       have h1 := (h.dropRow d).addF (G := fun y => ρ.ft d y /\ ¬ B' y) (ap.sub fun y hy => hy.1)
       refine ⟨_, B', ⟨h1, sim _, (ap.sub g1).addF fun y hy hg => hg.2 hy, fun B0 hB => ⟨(hB.dropRow d).addF fun y hy hy' => hB.row d r hd y hy'.1 hy, fun y hy hy' => hB.row d r hd y (g1 y hy') hy⟩⟩, ?_⟩
       obtain ⟨g5, g6⟩ := qIp hm.1 (by rw [<- e1]; exact g4) h3 h4 e2 e3
       refine ⟨p1, g5, fun hne => g6 fun hr0 => hne ?_⟩
       show r.l.take hi = []
       rw [hr0]; exact List.take_nil
      ·cases he
     ·cases he
  ·cases he
 | int k n => simp only [qGX, Option.some.injEq, Prod.mk.injEq] at he; obtain ⟨rfl, rfl, rfl⟩ := he; exact plain rfl rfl rfl
 | bool b => simp only [qGX, Option.some.injEq, Prod.mk.injEq] at he; obtain ⟨rfl, rfl, rfl⟩ := he; exact plain rfl rfl rfl
 | str s => simp only [qGX, Option.some.injEq, Prod.mk.injEq] at he; obtain ⟨rfl, rfl, rfl⟩ := he; exact plain rfl rfl rfl
 | dat e t l =>
  simp only [qGX] at he
  split at he
  ·simp only [Option.some.injEq, Prod.mk.injEq] at he; obtain ⟨rfl, rfl, rfl⟩ := he; exact plain rfl rfl rfl
  ·cases he
 | pdat e t x o => simp only [qGX, Option.some.injEq, Prod.mk.injEq] at he; obtain ⟨rfl, rfl, rfl⟩ := he; exact plain rfl rfl rfl
 | _ => simp [qGX] at he
theorem qH4 {ρ0 : Env} : ∀ {cs cs' : List CV} {vs : List Value} {rs rs' : List (Option Nat)} {ρ : Env} {st st' : St}, Rep φ ρ st a w -> ρ0.Sim ρ -> jN (CVR ρ0 w) cs vs -> qKi st rs cs = some (cs', st', rs') -> ∃ ρ' B, qAI φ ρ ρ' st st' a w B /\ Sep (BC0 ρ'.F w) cs' B vs
 | [], cs', [], rs, rs', ρ, st, st', h, _, _, he => by
  simp only [qKi, Option.some.injEq, Prod.mk.injEq] at he
  obtain ⟨rfl, rfl, rfl⟩ := he
  exact ⟨ρ, _, qAI.refl h, trivial⟩
 | c :: cs, cs', v :: vs, rs, rs', ρ, st, st', h, hs, ha, he => by
  simp only [qKi] at he
  split at he
  ·rename_i y st1 rs1 h1
   split at he
   ·rename_i ys st2 rs2 h2
    simp only [Option.some.injEq, Prod.mk.injEq] at he
    obtain ⟨rfl, rfl, rfl⟩ := he
    obtain ⟨ρ1, B1, e1, c1⟩ := qGW h hs ha.1 h1
    obtain ⟨ρ2, B2, e2, c2⟩ := qH4 e1.rep (hs.trans e1.sim) ha.2 h2
    obtain ⟨e3, d3⟩ := e1.trans e2
    exact ⟨ρ2, _, e3, B1, B2, fun y hy => ⟨.inl hy, d3 y hy⟩, fun y hy => .inr hy, qAg e2.sim.F (qG.refl _ _) (qG.refl _ _) c1, c2⟩
   ·cases he
  ·cases he
theorem qF7 {ρ0 : Env} : ∀ {cs cs' : List CV} {vs : List Value} {ρ : Env} {st st' : St}, Rep φ ρ st a w -> ρ0.Sim ρ -> jN (CVR ρ0 w) cs vs -> qBX st cs = some (cs', st') -> ∃ ρ' B, qAI φ ρ ρ' st st' a w B /\ Sep (BC0 ρ'.F w) cs' B vs
 | [], cs', [], ρ, st, st', h, _, _, he => by
  simp only [qBX, Option.some.injEq, Prod.mk.injEq] at he
  obtain ⟨rfl, rfl⟩ := he
  exact ⟨ρ, _, qAI.refl h, trivial⟩
 | c :: cs, cs', v :: vs, ρ, st, st', h, hs, ha, he => by
  simp only [qBX] at he
  split at he
  ·rename_i y st1 rs1 h1
   split at he
   ·rename_i ys st2 h2
    simp only [Option.some.injEq, Prod.mk.injEq] at he
    obtain ⟨rfl, rfl⟩ := he
    obtain ⟨ρ1, B1, e1, c1⟩ := qGW h hs ha.1 h1
    obtain ⟨ρ2, B2, e2, c2⟩ := qF7 e1.rep (hs.trans e1.sim) ha.2 h2
    obtain ⟨e3, d3⟩ := e1.trans e2
    exact ⟨ρ2, _, e3, B1, B2, fun y hy => ⟨.inl hy, d3 y hy⟩, fun y hy => .inr hy, qAg e2.sim.F (qG.refl _ _) (qG.refl _ _) c1, c2⟩
   ·cases he
  ·cases he
theorem qCM (h : Rep φ ρ st a w) {b : Nat} {x : Box} (hx0 : st.box? b = some x) (hro : x.ro = false) {cs : List CV} {st' : St} (he : qBX { st with boxes := del b st.boxes } x.cs = some (cs, st')) :
  ∃ ρ' B, qAI φ ρ ρ' st st' a w B /\ BC ρ'.F w (.boxr x.e cs) B (.pointer (some ⟨ρ.blk b, 0, none⟩)) := by
 have hx := (wV hx0).1
 obtain ⟨arr, fr, k1, k2, k3⟩ := h.cellsBox hx0
 have hlt : ρ.blk b < w.heap.size := by
  rcases Nat.lt_or_ge (ρ.blk b) w.heap.size with h' | h'
  ·exact h'
  ·simp [Array.getElem?_eq_none h'] at k1
 have h0 : Rep φ ρ { st with boxes := del b st.boxes } a w := h.less h.on (fun _ _ h => h) (fun _ _ h => h) (fun b' x' hx' => (vH hx').2) (fun _ h => h) (fun _ h => h)
 have ap : qL φ ρ { st with boxes := del b st.boxes } w fun y => y = ρ.blk b :=
  ⟨fun d r hd y hy e => (by subst e; exact h.rb d r b x hd hx hy), fun b' x' hx' e => (by obtain ⟨hn, hx'⟩ := vH hx'; exact h.bsep b' b x' x hx' hx hn e), fun y hy => (by subst hy; exact ⟨(h.bF b x hx).1 hro, hlt, (h.bF b x hx).2⟩)⟩
 obtain ⟨ρ1, B1, e1, c1⟩ := qF7 h0 (Env.Sim.refl ρ) k3 he
 obtain ⟨q1, q2⟩ := e1.keep _ ap
 refine ⟨ρ1, fun y => y = ρ.blk b \/ B1 y, ⟨e1.rep, e1.sim, q1.or e1.apart, fun B0 hB => ?_⟩, ρ.blk b, arr, fr, B1, rfl, k1, k2, .inl rfl, fun y hy => ⟨.inr hy, fun e => q2 y e hy⟩, c1⟩
 have hB' : qL φ ρ { st with boxes := del b st.boxes } w B0 := ⟨hB.row, fun b' x' hx' => hB.box b' x' (vH hx').2, hB.here⟩
 obtain ⟨q3, q4⟩ := e1.keep B0 hB'
 exact ⟨q3, fun y hy hh => hh.elim (fun e => hB.box b x hx (e ▸ hy)) (q4 y hy)⟩
theorem qM2 {ρ0 : Env} (h : Rep φ ρ st a w) (hs : ρ0.Sim ρ) {v v' : SV} {x : Value} {rs rs' : List (Option Nat)} {st' : St} (hv : SVR ρ0 w v x) (he : qNo st rs v = some (v', st', rs')) : ∃ ρ' B, qAI φ ρ ρ' st st' a w B /\ BV ρ'.F w v' B x := by
 cases v with
 | c y =>
  by_cases hp : ∃ b, y = .pbox b 0
  ·obtain ⟨b, rfl⟩ := hp
   simp only [qNo] at he
   split at he
   ·rename_i bx hbx
    split at he
    ·cases he
    ·rename_i hn
     simp only [Bool.or_eq_true, not_or, Bool.not_eq_true] at hn
     split at he
     ·rename_i cs st1 h1
      simp only [Option.some.injEq, Prod.mk.injEq] at he
      obtain ⟨rfl, rfl, rfl⟩ := he
      obtain ⟨ρ1, B1, e1, c1⟩ := qCM h hbx hn.2 h1
      refine ⟨ρ1, B1, e1, ?_⟩
      rw [show x = .pointer (some ⟨ρ.blk b, 0, none⟩) from by rw [hs.blk]; exact hv]
      exact c1
     ·cases he
   ·cases he
  ·have e1 : qNo st rs (.c y) = match qGX st rs y with | some (y, st', rs') => some (.c y, st', rs') | none => none := by
    cases y with
    | pbox b off =>
     cases off with
     | zero => exact absurd ⟨b, rfl⟩ hp
     | succ n => rfl
    | _ => rfl
   rw [e1] at he
   split at he
   ·rename_i y' st1 rs1 h1
    simp only [Option.some.injEq, Prod.mk.injEq] at he
    obtain ⟨rfl, rfl, rfl⟩ := he
    obtain ⟨ρ1, B1, e1, c1⟩ := qGW h hs hv h1
    exact ⟨ρ1, B1, e1, kZ c1⟩
   ·cases he
 | agg xs =>
  simp only [qNo] at he
  split at he
  ·rename_i ys st1 rs1 h1
   simp only [Option.some.injEq, Prod.mk.injEq] at he
   obtain ⟨rfl, rfl, rfl⟩ := he
   obtain ⟨arr, rfl, ha⟩ := hv
   obtain ⟨ρ1, B1, e1, c1⟩ := qH4 h hs ha h1
   exact ⟨ρ1, B1, e1, arr, rfl, c1⟩
  ·cases he
 | _ => simp [qNo] at he
theorem qH3 {ρ0 : Env} : ∀ {vs ws : List SV} {xs : List Value} {rs : List (Option Nat)} {ρ : Env} {st st' : St}, Rep φ ρ st a w -> ρ0.Sim ρ -> jN (SVR ρ0 w) vs xs -> qKh st rs vs = some (ws, st') -> ∃ ρ' B, qAI φ ρ ρ' st st' a w B /\ Sep (BV ρ'.F w) ws B xs
 | [], ws, [], rs, ρ, st, st', h, _, _, he => by
  simp only [qKh, Option.some.injEq, Prod.mk.injEq] at he
  obtain ⟨rfl, rfl⟩ := he
  exact ⟨ρ, _, qAI.refl h, trivial⟩
 | v :: vs, ws, x :: xs, rs, ρ, st, st', h, hs, ha, he => by
  simp only [qKh] at he
  split at he
  ·rename_i y st1 rs1 h1
   split at he
   ·rename_i ys st2 h2
    simp only [Option.some.injEq, Prod.mk.injEq] at he
    obtain ⟨rfl, rfl⟩ := he
    obtain ⟨ρ1, B1, e1, c1⟩ := qM2 h hs ha.1 h1
    obtain ⟨ρ2, B2, e2, c2⟩ := qH3 e1.rep (hs.trans e1.sim) ha.2 h2
    obtain ⟨e3, d3⟩ := e1.trans e2
    exact ⟨ρ2, _, e3, B1, B2, fun y hy => ⟨.inl hy, d3 y hy⟩, fun y hy => .inr hy, qBG e2.sim.F (qG.refl _ _) (qG.refl _ _) c1, c2⟩
   ·cases he
  ·cases he
theorem qAI.lend (h : Rep φ ρ st a w) {d : Nat} {r : Row} (hd : qO d st.rows = some r) : qAI φ ρ (ρ.off d) st { st.kill (CV.nested d) with rows := del d st.rows } a w (ρ.ft d) where
 rep := h.lendRow d
 sim := ⟨fun _ h => h, rfl, rfl, rfl, fun _ _ h => h⟩
 apart := ⟨fun e r' he y hy hy' => (by obtain ⟨hn, he⟩ := vH he; exact h.rsep e d r' r he hd hn y hy hy'),
  fun b x hx => (by obtain ⟨y, hy, _⟩ := qM (st := st) hx; exact h.rb d r b y hd hy), fun y hy => h.rF d r hd y hy⟩
 keep := fun B0 hB => ⟨⟨fun e r' he => hB.row e r' (vH he).2, fun b x hx => (by obtain ⟨y, hy, _⟩ := qM (st := st) hx; exact hB.box b y hy), hB.here⟩, fun y hy hh => hB.row d r hd y hh hy⟩
theorem yU {F : Nat -> Prop} (hF : ∀ y, F y -> φ.F0 y) (haF : qG F φ.w0 w) {base : Nat} : ∀ {cs cs' : List CV} {vs : List Value} {j : Nat} {D : Nat -> Prop} {ρ : Env} {st st' : St}, Rep φ ρ st a w -> Sep (BC0 F φ.w0) cs D vs -> (∀ k x, vs[k]? = some x -> φ.val0 (base + j + k) = x) ->
  wK st base j cs = some (cs', st') -> ∃ ρ' B, qAI φ ρ ρ' st st' a w B /\ Sep (BC0 ρ'.F w) cs' B vs
 | [], cs', [], j, D, ρ, st, st', h, _, _, he => by
  simp only [wK, Option.some.injEq, Prod.mk.injEq] at he
  obtain ⟨rfl, rfl⟩ := he
  exact ⟨ρ, _, qAI.refl h, trivial⟩
 | c :: cs, cs', v :: vs, j, D, ρ, st, st', h, hs, hp, he => by
  obtain ⟨D1, D2, _, _, h1, h2⟩ := hs
  have hp' : ∀ k x, vs[k]? = some x -> φ.val0 (base + (j + 1) + k) = x := fun k x hx => by
   have := hp (k + 1) x (by simpa using hx)
   rw [show base + (j + 1) + k = base + j + (k + 1) by omega]; exact this
  have plain : (∀ r, c ≠ .row r) -> ∀ {ys : List CV}, wK st base (j + 1) cs = some (ys, st') -> cs' = c :: ys -> ∃ ρ' B, qAI φ ρ ρ' st st' a w B /\ Sep (BC0 ρ'.F w) cs' B (v :: vs) := by
   intro hn ys hys e
   subst e
   obtain ⟨ρ1, B1, e1, c1⟩ := yU hF haF h h2 hp' hys
   have hc : c.plain = true /\ CVR (bare F) φ.w0 c v := by
    cases c <;> first | exact h1 | exact absurd rfl (hn _)
   refine ⟨ρ1, B1, e1, fun _ => False, B1, fun _ h => h.elim, fun _ h => h, ?_, c1⟩
   have := jU (yT (ρ' := bare ρ1.F) hc.1 (fun y hy => e1.sim.F y (h.F0 y (hF y hy))) haF) hc.2
   exact qAE (ρ := bare ρ1.F) hc.1 (fun _ h => h) this
  cases c with
  | row r0 =>
   simp only [wK] at he
   split at he
   ·rename_i r hr
    split at he
    ·cases he
    ·rename_i hl
     split at he
     ·rename_i ys st1 h3
      simp only [Option.some.injEq, Prod.mk.injEq] at he
      obtain ⟨rfl, rfl⟩ := he
      have hd := qI hr
      have e1 := qAI.lend h hd
      obtain ⟨ρ2, B2, e2, c2⟩ := yU hF haF e1.rep h2 hp' h3
      obtain ⟨e3, d3⟩ := e1.trans e2
      refine ⟨ρ2, _, e3, ρ.ft (base + j), B2, fun y hy => ⟨.inl hy, d3 y hy⟩, fun y hy => .inr hy, qAg e2.sim.F (qG.refl _ _) (qG.refl _ _) ?_, c2⟩
      obtain ⟨p1, p2, p3, p4⟩ := h.rows (base + j) r hd
      have hv : ρ.val (base + j) = v := by
       rw [h.lentR (base + j) (by simpa using hl)]
       have := hp 0 v rfl
       simpa using this
      have p3 := kX.whole (qJ hr) p3
      rw [hv] at p3 p4
      exact ⟨qJ hr, p3, p4⟩
     ·cases he
   ·cases he
  | _ =>
   simp only [wK] at he
   split at he
   ·rename_i ys st1 h3
    simp only [Option.some.injEq, Prod.mk.injEq] at he
    obtain ⟨rfl, rfl⟩ := he
    exact plain (fun r => by intro e; cases e) h3 rfl
   ·cases he
theorem qCL {F : Nat -> Prop} : ∀ {ds : List CV} {vs : List Value} {b : Nat} {D : Nat -> Prop} {ρ : Env} {st st' : St} {cs : List CV}, Rep φ ρ st a w -> Sep (BC F φ.w0) ds D vs ->
  (∀ k nb, vs[k]? = some (.pointer (some ⟨nb, 0, none⟩)) -> φ.blk0 (b + 1000 * k) = nb) -> xZ st b ds = some (cs, st') -> ∃ ρ' B, qAI φ ρ ρ' st st' a w B /\ Sep (BC ρ'.F w) cs B vs
 | [], [], b, D, ρ, st, st', cs, h, _, _, he => by
  simp only [xZ, Option.some.injEq, Prod.mk.injEq] at he
  obtain ⟨rfl, rfl⟩ := he
  exact ⟨ρ, _, qAI.refl h, trivial⟩
 | d :: ds, x :: vs, b, D, ρ, st, st', cs, h, hs, hp, he => by
  obtain ⟨D1, D2, _, _, h1, h2⟩ := hs
  cases d with
  | boxr e0 es =>
   simp only [xZ] at he
   split at he
   ·rename_i bx hbx
    split at he
    ·cases he
    ·rename_i hl
     simp only [Bool.or_eq_true, not_or, Bool.not_eq_true, Bool.not_eq_true', Bool.not_eq_false] at hl
     split at he
     ·rename_i ys st1 g1
      split at he
      ·rename_i zs st2 g2
       simp only [Option.some.injEq, Prod.mk.injEq] at he
       obtain ⟨rfl, rfl⟩ := he
       obtain ⟨ρ1, B1, e1, c1⟩ := qCM h hbx hl.1 g1
       obtain ⟨nb, arr, fr, C1, q1, _⟩ := (h1 : BC F φ.w0 (.boxr e0 es) D1 x)
       have hb : ρ.blk b = nb := by
        rw [h.lentB b (by simpa using hl.2)]
        exact hp 0 nb (by rw [q1]; rfl)
       rw [hb, <- q1] at c1
       obtain ⟨ρ2, B2, e2, c2⟩ := qCL e1.rep h2 (fun k nb' hk => by have := hp (k + 1) nb' (by simpa using hk); rw [show b + 1000 + 1000 * k = b + 1000 * (k + 1) by omega]; exact this) g2
       obtain ⟨e3, d3⟩ := e1.trans e2
       exact ⟨ρ2, _, e3, B1, B2, fun y hy => ⟨.inl hy, d3 y hy⟩, fun y hy => .inr hy, qBH e2.sim.F (qG.refl _ _) (qG.refl _ _) c1, c2⟩
      ·cases he
     ·cases he
   ·cases he
  | _ => simp [xZ] at he
theorem qMN {F : Nat -> Prop} (hF : ∀ y, F y -> φ.F0 y) (haF : qG F φ.w0 w) {i : Nat} {v : SV} {x : Value} {D : Nat -> Prop} {cs : List CV} {st' : St} (h : Rep φ ρ st a w) (hv : BV F φ.w0 v D x) (hp : qB4 φ i x) (he : qNy st i v = some (cs, st')) :
  ∃ ρ' B, qAI φ ρ ρ' st st' a w B /\ Sep (BC ρ'.F w) cs B (if v.isClo then qIV x else x.cells.toList) := by
 cases v with
 | c y =>
  rcases kJ (show BC F φ.w0 y D x from hv) with ⟨e, ds, rfl⟩ | ⟨hn, h0⟩
  ·simp only [qNy] at he
   split at he
   ·rename_i bx hbx
    split at he
    ·cases he
    ·rename_i hl
     simp only [Bool.or_eq_true, not_or, Bool.not_eq_true, Bool.not_eq_true', Bool.not_eq_false] at hl
     split at he
     ·rename_i ys st1 h1
      simp only [Option.some.injEq, Prod.mk.injEq] at he
      obtain ⟨rfl, rfl⟩ := he
      obtain ⟨ρ1, B1, e1, c1⟩ := qCM h hbx hl.1 h1
      refine ⟨ρ1, B1, e1, ?_⟩
      obtain ⟨b, arr, fr, C1, q1, _⟩ := (hv : BC F φ.w0 (.boxr e ds) D x)
      have hb : ρ.blk i = b := by
       rw [h.lentB i (by simpa using hl.2)]
       exact hp.2.1 b q1
      rw [hb] at c1
      rw [q1]
      exact Sep.one c1
     ·cases he
   ·cases he
  ·have e1 : qNy st i (.c y) = wK st (32 * i) 0 [y] := by
    cases y with
    | boxr e ds => exact absurd rfl (hn e ds)
    | _ => rfl
   rw [e1] at he
   have hc1 : x.cells = #[x] := by
    have := qK9 h0
    cases x <;> simp_all [Value.cells, Value.oneCell']
   obtain ⟨ρ1, B1, e2, c1⟩ := yU hF haF (base := 32 * i) (j := 0) h (Sep.one h0 : Sep (BC0 F φ.w0) [y] D [x]) (fun k z hz => by
    have := hp.1 k z (by rw [hc1]; exact hz)
    simpa using this) he
   rw [hc1]
   exact ⟨ρ1, B1, e2, c1.imp fun _ _ _ _ => kZ⟩
 | agg xs =>
  obtain ⟨arr, rfl, hs⟩ := hv
  have e1 : qNy st i (.agg xs) = wK st (32 * i) 0 xs := rfl
  rw [e1] at he
  obtain ⟨ρ1, B1, e2, c1⟩ := yU hF haF (base := 32 * i) (j := 0) h hs (fun k z hz => by
   have := hp.1 k z hz
   simpa using this) he
  exact ⟨ρ1, B1, e2, c1.imp fun _ _ _ _ => kZ⟩
 | undef => exact hv.elim
 | clo f n ds =>
  obtain ⟨first, caps, rfl, h2, h3⟩ := hv
  exact qCL h h3 (fun k nb hk => by
   have := hp.2.2 k nb hk
   rw [show i + 1000 + 1000 * k = i + 1000 * (k + 1) by omega]; exact this) he
 | tup _ => exact hv.elim
theorem qEx {F : Nat -> Prop} (hF : ∀ y, F y -> φ.F0 y) (haF : qG F φ.w0 w) : ∀ {vs : List SV} {xs : List Value} {ms : List Nat} {i : Nat} {D : Nat -> Prop} {ρ : Env} {st : St} {l : List (List CV)}, Rep φ ρ st a w -> Sep (BV F φ.w0) vs D xs -> (∀ k x, xs[k]? = some x -> qB4 φ (i + k) x) ->
  qIE st i ms vs = some l -> ∃ ρ' st' B, qAI φ ρ ρ' st st' a w B /\ Sep (Sep (BC ρ'.F w)) l B (vD ms xs)
 | [], [], ms, i, D, ρ, st, l, h, _, _, he => by
  simp only [qIE, Option.some.injEq] at he
  subst he
  exact ⟨ρ, st, _, qAI.refl h, trivial⟩
 | v :: vs, x :: xs, ms, i, D, ρ, st, l, h, hs, hp, he => by
  obtain ⟨D1, D2, _, _, h1, h2⟩ := hs
  have hp' : ∀ k y, xs[k]? = some y -> qB4 φ (i + 1 + k) y := fun k y hy => by
   have := hp (k + 1) y (by simpa using hy)
   rw [show i + 1 + k = i + (k + 1) by omega]; exact this
  simp only [qIE] at he
  simp only [vD]
  by_cases hm : ms.headD 0 = 1 \/ ms.headD 0 = 4
  ·rw [if_pos hm] at he
   split at he
   ·rename_i cs st1 h3
    split at h3
    ·rename_i hclo
     split at he
     ·rename_i l2 h4
      simp only [Option.some.injEq] at he
      subst he
      obtain ⟨ρ1, B1, e1, c1⟩ := qMN hF haF h h1 (by have := hp 0 x rfl; simpa using this) h3
      obtain ⟨ρ2, st2, B2, e2, c2⟩ := qEx hF haF e1.rep h2 hp' h4
      obtain ⟨e3, d3⟩ := e1.trans e2
      rw [<- hclo] at c1
      by_cases h4' : ms.headD 0 = 4
      ·rw [if_neg (by rw [h4']; decide), if_pos h4']
       rw [if_pos (by simpa using h4')] at c1
       exact ⟨ρ2, st2, _, e3, B1, B2, fun y hy => ⟨.inl hy, d3 y hy⟩, fun y hy => .inr hy, c1.imp fun _ _ _ _ hh => qBH e2.sim.F (qG.refl _ _) (qG.refl _ _) hh, c2⟩
      ·rw [if_pos (hm.resolve_right h4')]
       rw [if_neg (by simpa using h4')] at c1
       exact ⟨ρ2, st2, _, e3, B1, B2, fun y hy => ⟨.inl hy, d3 y hy⟩, fun y hy => .inr hy, c1.imp fun _ _ _ _ hh => qBH e2.sim.F (qG.refl _ _) (qG.refl _ _) hh, c2⟩
     ·cases he
    ·cases h3
   ·cases he
  ·rw [if_neg hm] at he
   rw [if_neg (fun hh => hm (.inl hh)), if_neg (fun hh => hm (.inr hh))]
   exact qEx hF haF h h2 hp' he
theorem qMI (hC : jT P C) (h : Rep φ ρ st a w) {x : ResultVar} {v : SV} (hv : qPB C st x = some v) :
  ∃ z, (match x with | .tmp t => (Pure.pure (a.tmps.getD t undef) : Sem Value) | .cell ad t => (do loadVar t (<- asAddr (a.tmps.getD ad undef)))).run P w = .ok z w /\ SVR ρ w v z := by
 cases x with
 | tmp t => exact ⟨_, rfl, (h.slots t v hv).2⟩
 | cell t ty =>
  simp only [qPB] at hv
  split at hv
  ·rename_i b o hl
   have hp : a.tmps.getD t undef = .pointer (some ⟨ρ.blk b, o, none⟩) := (h.slots t _ hl).2
   simp only [qB9] at hv
   split at hv
   ·rename_i bx hbx
    split at hv
    ·rename_i g n hsz
     obtain ⟨arr, fr, k1, k2, k3⟩ := h.cellsBox hbx
     obtain ⟨i, hi, hlen, hh⟩ := qJL hC hv (yQ k3 o n)
     have hcells : qZ w (ρ.blk b) o ((arr.toList.drop o).take n) := by
      intro j hj
      rw [zA]
      refine ⟨arr, bx.e, fr, k1, ?_⟩
      rw [List.getElem_take, List.getElem_drop]
      simp only [List.length_take, List.length_drop, Array.length_toList] at hj
      rw [<- Array.getElem?_toList, List.getElem?_eq_getElem (by simp; omega)]
     rcases hh with ⟨hagg, hs⟩ | ⟨hagg, z, hz, hs⟩
     ·refine ⟨_, ?_, hs⟩
      simp only [hp, Sem.run_bind, asAddr, Sem.run_pure, Result.andThen_ok]
      exact wI hC hi hcells hlen (.inl ⟨hagg, rfl⟩)
     ·refine ⟨z, ?_, hs⟩
      simp only [hp, Sem.run_bind, asAddr, Sem.run_pure, Result.andThen_ok]
      exact wI hC hi hcells hlen (.inr ⟨hagg, hz⟩)
    ·cases hv
   ·cases hv
  ·cases hv
theorem qHF (hC : jT P C) (h : Rep φ ρ st a w) : ∀ {xs : List ResultVar} {vs : List SV}, qJv C st xs = some vs ->
  ∃ zs : List Value, (xs.mapM fun x : ResultVar => match x with | .tmp t => (Pure.pure (a.tmps.getD t undef) : Sem Value) | .cell ad t => (do loadVar t (<- asAddr (a.tmps.getD ad undef)))).run P w = .ok zs w /\ jN (SVR ρ w) vs zs
 | [], vs, hv => by simp only [qJv, Option.some.injEq] at hv; subst hv; exact ⟨[], rfl, trivial⟩
 | x :: xs, vs, hv => by
  simp only [qJv] at hv
  split at hv
  ·rename_i v vs' h1 h2
   simp only [Option.some.injEq] at hv
   subst hv
   obtain ⟨z, q1, q2⟩ := qMI hC h h1
   obtain ⟨zs, q3, q4⟩ := qHF hC h h2
   refine ⟨z :: zs, ?_, q2, q4⟩
   rw [List.mapM_cons, Sem.run_bind, q1, Result.andThen_ok, Sem.run_bind, q3, Result.andThen_ok]
   rfl
  ·cases hv
theorem qLB (hC : jT P C) {fn : Func} {ms : List Nat} {rs : List (Option Nat)} {args : List SV} {xs : List Value} {r : RES} {F B : Nat -> Prop} (h : Rep φ ρ st a w) (hs : Sep (BV F φ.w0) args B xs) (hB0 : φ.B0 = B) (hF0 : φ.F0 = F)
  (hFB : ∀ y, B y -> ¬ F y) (hFs : ∀ y, F y -> y < φ.w0.heap.size) (hp : ∀ k x, xs[k]? = some x -> qB4 φ k x) (he : qJU C fn ms rs args st = some r) : ∃ v, (results fn a.tmps).run P w = .ok v w /\ qNp F B φ.w0 w ms xs r v := by
 unfold qJU at he
 split at he
 ·cases he
 rename_i vs hvs
 split at he
 ·cases he
 rename_i ws st1 h1
 split at he
 ·cases he
 rename_i o h2
 simp only [Option.some.injEq] at he
 subst he
 obtain ⟨zs, q1, q2⟩ := qHF hC h hvs
 have h0 : Rep φ ρ { st with slots := [] } a w := h.less h.on (fun s v hv => by simp [qO] at hv) (fun _ _ h => h) (fun _ _ h => h) (fun _ h => h) (fun _ h => h)
 obtain ⟨ρ1, B1, e1, c1⟩ := qH3 h0 (Env.Sim.refl ρ) q2 h1
 have haF : qG F φ.w0 w := fun y ob hf hy => by
  rw [h.keep y (hFs y hf) (by rw [hB0]; exact fun hb => hFB y hb hf)]; exact hy
 obtain ⟨ρ2, st2, B2, e2, c2⟩ := qEx (i := 0) (fun y hy => by rw [hF0]; exact hy) haF e1.rep hs (fun k x hx => by rw [Nat.zero_add]; exact hp k x hx) h2
 obtain ⟨e3, d3⟩ := e1.trans e2
 have c1' : Sep (BV ρ2.F w) ws B1 zs := c1.imp fun _ _ _ _ hh => qBG e2.sim.F (qG.refl _ _) (qG.refl _ _) hh
 have hlen := c1'.length
 refine ⟨if hh : zs.toArray.size = 1 then zs.toArray[0] else .tuple zs.toArray, ?_, ⟨h.grow, h.io, fun y hy hb => h.keep y hy (by rw [hB0]; exact hb), ρ2.F, B1, B2, fun y hy => e3.sim.F y (h.F0 y (by rw [hF0]; exact hy)), fun y hy => ?_, fun y hy => ?_, d3, ?_, c2⟩⟩
 ·unfold results
  rw [Array.mapM_eq_mapM_toList, Sem.run_bind, map_eq_pure_bind, Sem.run_bind]
  exact (congrArg (fun q : Result (List Value) => (q.andThen fun a w' => Sem.run P (Pure.pure a.toArray) w').andThen fun a w' => Sem.run P (Pure.pure (if h : a.size = 1 then a[0] else Value.tuple a)) w') q1).trans rfl
 ·obtain ⟨g1, g2⟩ := e3.rep.Fbd y hy
  rw [hF0] at g2
  refine ⟨g1, g2.imp id fun g => ?_⟩
  unfold Fix.mine at g
  rw [hB0] at g
  exact g
 ·obtain ⟨g1, g2, g3⟩ := e3.apart.here y hy
  refine ⟨g1, g2, ?_⟩
  unfold Fix.mine at g3
  rw [hB0] at g3
  exact g3
 ·match ws, zs, hlen, c1' with
  | [], [], _, _ => exact ⟨#[], rfl, trivial⟩
  | [v], [z], _, c1' =>
   obtain ⟨C1, C2, k1, k2, k3, _⟩ := c1'
   have hb : BV ρ2.F w v B1 z := by
    cases v with
    | c y =>
     rcases kJ (show BC ρ2.F w y C1 z from k3) with ⟨e, ds, rfl⟩ | ⟨hn, hh⟩
     ·obtain ⟨b, arr, fr, D, g1, g2, g3, g4, g5, g6⟩ := (k3 : BC ρ2.F w (.boxr e ds) C1 z)
      exact ⟨b, arr, fr, D, g1, g2, g3, (k1 _ g4).1, fun y hy => ⟨(k1 y (g5 y hy).1).1, (g5 y hy).2⟩, g6⟩
     ·exact kZ (qE0 (fun y hy => (k1 y hy).1) hh)
    | agg ys => obtain ⟨arr, g1, g2⟩ := k3; exact ⟨arr, g1, g2.foot fun y hy => (k1 y hy).1⟩
    | undef => exact k3.elim
    | clo _ _ _ => obtain ⟨first, caps, g1, g2, g3⟩ := k3; exact ⟨first, caps, g1, g2, g3.foot fun y hy => (k1 y hy).1⟩
    | tup _ => exact k3.elim
   cases v with
   | c y => exact hb
   | agg ys => exact hb
   | undef => exact hb.elim
   | clo _ _ _ => exact hb
   | tup _ => exact hb.elim
  | v1 :: v2 :: ws, z1 :: z2 :: zs, _, c1' => exact ⟨_, rfl, c1'⟩
end
structure qGx (P : Program) (C : Ctx) : Prop where
 name : ∀ f fn, C.fs f = some fn -> (fn.name == "runtime.NumGoroutine") = false
 ids : ∀ f fn c, C.fs f = some fn -> fn.body = some c -> (vC c).Nodup
 cuts : ∀ f fn c, C.fs f = some fn -> fn.body = some c -> (vV (fun k => (qO (1000000 + k) (C.fi f).loops).isSome) c).Nodup
theorem qGs {p : Code -> Prop} {k : Nat} {a : Code} : ∀ {c : Code}, jV p c -> qS k c = some a -> jV p a := by
 intro c
 induction c with
 | loop b ih =>
  intro h hf
  simp only [qS] at hf
  split at hf
  ·simp only [Option.some.injEq] at hf; subst hf; exact h.2
  ·exact ih h.2 hf
 | seq x y ihx ihy =>
  intro h hf
  simp only [qS] at hf
  split at hf
  ·rename_i c hc; simp only [Option.some.injEq] at hf; subst hf; exact ihx h.1 hc
  ·exact ihy h.2 hf
 | cond c x y ihx ihy =>
  intro h hf
  simp only [qS] at hf
  split at hf
  ·rename_i c hc; simp only [Option.some.injEq] at hf; subst hf; exact ihx h.1 hc
  ·exact ihy h.2 hf
 | block i b ih => intro h hf; exact ih h hf
 | _ => intro _ hf; simp [qS] at hf
theorem qHf {p : Code -> Prop} {k : Nat} {a : Code} : ∀ {c : Code}, zF p c -> qS k c = some a -> zF p a := by
 intro c
 induction c with
 | loop b ih =>
  intro h hf
  simp only [qS] at hf
  split at hf
  ·simp only [Option.some.injEq] at hf; subst hf; exact h
  ·exact ih h hf
 | seq x y ihx ihy =>
  intro h hf
  simp only [qS] at hf
  split at hf
  ·rename_i c hc; simp only [Option.some.injEq] at hf; subst hf; exact ihx h.2.1 hc
  ·exact ihy h.2.2 hf
 | cond c x y ihx ihy =>
  intro h hf
  simp only [qS] at hf
  split at hf
  ·rename_i c hc; simp only [Option.some.injEq] at hf; subst hf; exact ihx h.1 hc
  ·exact ihy h.2 hf
 | block i b ih => intro h hf; exact ih h hf
 | _ => intro _ hf; simp [qS] at hf
theorem qGt {p : Code -> Prop} {k : Nat} {a : Code} : ∀ {c : Code}, jV p c -> jB k c = some a -> jV p a := by
 intro c
 induction c with
 | loop b ih => intro h hf; exact ih h.2 hf
 | seq x y ihx ihy =>
  intro h hf
  simp only [jB] at hf
  split at hf
  ·simp only [Option.some.injEq] at hf; subst hf; exact h.2
  ·split at hf
   ·rename_i c hc; simp only [Option.some.injEq] at hf; subst hf; exact ihx h.1 hc
   ·exact ihy h.2 hf
 | cond c x y ihx ihy =>
  intro h hf
  simp only [jB] at hf
  split at hf
  ·rename_i c hc; simp only [Option.some.injEq] at hf; subst hf; exact ihx h.1 hc
  ·exact ihy h.2 hf
 | block i b ih => intro h hf; exact ih h hf
 | _ => intro _ hf; simp [jB] at hf
theorem qHg {p : Code -> Prop} {k : Nat} {a : Code} : ∀ {c : Code}, zF p c -> jB k c = some a -> zF p a := by
 intro c
 induction c with
 | loop b ih => intro h hf; exact ih h hf
 | seq x y ihx ihy =>
  intro h hf
  simp only [jB] at hf
  split at hf
  ·simp only [Option.some.injEq] at hf; subst hf; exact h.2.2
  ·split at hf
   ·rename_i c hc; simp only [Option.some.injEq] at hf; subst hf; exact ihx h.2.1 hc
   ·exact ihy h.2.2 hf
 | cond c x y ihx ihy =>
  intro h hf
  simp only [jB] at hf
  split at hf
  ·rename_i c hc; simp only [Option.some.injEq] at hf; subst hf; exact ihx h.1 hc
  ·exact ihy h.2 hf
 | block i b ih => intro h hf; exact ih h hf
 | _ => intro _ hf; simp [jB] at hf
theorem qEb {P : Program} {C : Ctx} {call : jG} {lp : kY} (hC : jT P C) (hm : P.follows .mixedOrders = true) (hf : qGx P C) (hcalls : yZ P C call) {f : FuncId} {fn : Func} {c : Code} (hfn : C.fs f = some fn) (hbody : fn.body = some c)
  (hlp : qK3 P fn.ntmps (C.fi f) c lp) {args : List SV} {K : RES -> Prop} (h : evC C call fn.ntmps (C.fi f) lp c (enter (C.fi f).modes args) (qCc C fn (C.fi f) args K)) (hsmall : vM args = true) {vs : List Value} {w : World} {F B : Nat -> Prop} (htab : TabOK F w) (hs : Sep (BV F w) args B vs)
  (hF : ∀ y, F y -> y < w.heap.size) (hB : ∀ y, B y -> ¬ F y /\ y < w.heap.size) : Calls P f vs.toArray w fun e w' => ∃ v r, e = .returned v /\ K r /\ qNp F B w w' (C.fi f).modes vs r v := by
 obtain ⟨φ, ρ, e1, e2, e3, hN, hpl, hrep⟩ := qLL (ms := (C.fi f).modes) (nt := fn.ntmps) htab hs hsmall hF hB
 have hwp := qKl hC hm hcalls hlp hN c (qBc (hf.ids f fn c hfn hbody)) (qB2 (hf.cuts f fn c hfn hbody)) ρ _ _ _ _ hrep h
 have hP := hC.fs f fn hfn
 refine calls_of_wp hP hbody (wp_mono hwp fun e a' w' hq => ?_)
 have fin : ∀ x, (∀ j, x ≠ X.exit j) -> qAn φ (qCc C fn (C.fi f) args K x) a' w' -> a'.defers = [] /\ ∃ v, (results fn a'.tmps).run P w' = .ok v w' /\ ∃ u r, Ending.returned v = .returned u /\ K r /\ qNp F B w w' (C.fi f).modes vs r u := by
  rintro x hx ⟨ρ', st', hr, hk⟩
  unfold qCc at hk
  split at hk
  ·exact absurd rfl (hx _)
  ·split at hk
   ·rename_i r hl
    subst e1
    obtain ⟨v, g1, g2⟩ := qLB hC hr hs e2 e3 (fun y hy => (hB y hy).1) hF hpl hl
    exact ⟨hr.nodef, v, g1, v, r, rfl, hk, g2⟩
   ·exact hk.elim
 cases e with
 | normal => exact fin .normal (fun j => by intro e; cases e) hq
 | ret => exact fin .ret (fun j => by intro e; cases e) hq
 | exit j => obtain ⟨ρ', st', _, hk⟩ := hq; exact hk.elim
 | goto l => exact hq.elim
 | panic c => exact hq.elim
 | outgrown => exact hq.elim
theorem qJQ {P : Program} {C : Ctx} {X0 : jG} (hC : jT P C) (hm : P.follows .mixedOrders = true) (hf : qGx P C) (hX : qB6 P C X0) :
  ∀ n, qB6 P C (qB8 C X0 n).call /\ ∀ f fn c, C.fs f = some fn -> fn.body = some c -> qK3 P fn.ntmps (C.fi f) c ((qB8 C X0 n).loop f)
 | 0 => ⟨fun f args K h => h.elim, fun f fn c _ _ => ⟨fun b _ _ φ ρ st a w K _ _ h => h.elim, fun body _ _ φ ρ st a w K _ _ h => h.elim⟩⟩
 | n + 1 => by
  obtain ⟨ih1, ih2⟩ := qJQ hC hm hf hX n
  have hcalls : yZ P C (qB8 C X0 n).call := qDP ih1
  constructor
  ·intro f args K h hsmall vs w F B htab hs hF hB o a next Q hnext
   have h' : (match C.fs f with
    | none => X0 f args K
    | some fn => match fn.body with
     | none => X0 f args K
     | some c => evC C (qB8 C X0 n).call fn.ntmps (C.fi f) ((qB8 C X0 n).loop f) c (enter (C.fi f).modes args) (qCc C fn (C.fi f) args K)) := h
   split at h'
   ·exact hX f args K h' hsmall vs w F B htab hs hF hB o a next Q hnext
   ·rename_i fn hfn
    split at h'
    ·exact hX f args K h' hsmall vs w F B htab hs hF hB o a next Q hnext
    ·rename_i c hbody
     have hP := hC.fs f fn hfn
     have hcalls := qEb hC hm hf hcalls hfn hbody (ih2 f fn c hfn hbody) h' hsmall htab hs hF hB
     have hrun : (callFunc f vs.toArray).run P w = .ok (.enter f vs.toArray) w := by
      unfold callFunc
      have hn := hf.name f fn hfn
      simp only [Sem.run_bind, program, Sem.run, Result.andThen_ok, hP, hn, Bool.false_eq_true, if_false, hbody, Option.isNone_some]
      rfl
     rw [hrun, Oper.upon_enter]
     refine hcalls.mono fun e w' ⟨v, r, he, hk, hp⟩ => ?_
     subst he
     exact hnext v r w' hk hp
  ·intro f fn c hfn hbody
   have hall := qBc (hf.ids f fn c hfn hbody)
   have hseq := qB2 (hf.cuts f fn c hfn hbody)
   refine ⟨fun b h0 hfind φ ρ st a w K hr hN h => ?_, fun body hlt hfind φ ρ st a w K hr hN h => ?_⟩
   ·have h' : (match C.fs f with
     | none => False
     | some fn => match fn.body with
      | none => False
      | some c => if 1000000 <= 1000000 + jK b then (match jB (1000000 + jK b - 1000000) c, qO (1000000 + jK b) (C.fi f).loops with
       | some b, some li => evC C (qB8 C X0 n).call fn.ntmps (C.fi f) ((qB8 C X0 n).loop f) b st (qMq li K)
       | _, _ => False) else _) := h
    rw [hfn] at h'
    simp only [hbody] at h'
    rw [if_pos (by omega), show 1000000 + jK b - 1000000 = jK b from by omega, hfind] at h'
    split at h'
    ·rename_i b' li hb' hli
     simp only [Option.some.injEq] at hb'
     subst hb'
     have hwp := qKl hC hm hcalls (ih2 f fn c hfn hbody) hN b (qGt hall hfind) (qHg hseq hfind) ρ st a w _ hr h'
     refine wp_mono hwp fun e a' w' hq => ?_
     cases e with
     | normal =>
      obtain ⟨ρ', st', hr', hk⟩ := hq
      have hk' : (match qO 1000000 li.exits with
       | some k => vN k st' (K .normal)
       | none => False) := hk
      split at hk'
      ·exact wR hr' hk'
      ·exact hk'.elim
     | exit j =>
      obtain ⟨ρ', st', hr', hk⟩ := hq
      have hk' : (match qO j li.exits with
       | some k => vN k st' (K (.exit j))
       | none => False) := hk
      split at hk'
      ·exact wR hr' hk'
      ·exact hk'.elim
     | ret =>
      obtain ⟨ρ', st', hr', hk⟩ := hq
      exact wR (k := li.ret) hr' hk
     | goto l => exact hq.elim
     | panic c => exact hq.elim
     | outgrown => exact hq.elim
    ·exact h'.elim
   have h' : (match C.fs f with
    | none => False
    | some fn => match fn.body with
     | none => False
     | some c => if 1000000 <= zZ body then _ else match qS (zZ body) c, qO (zZ body) (C.fi f).loops with
      | some a, some li => evC C (qB8 C X0 n).call fn.ntmps (C.fi f) ((qB8 C X0 n).loop f) a st (qBQ li (fun st' => (qB8 C X0 n).loop f (zZ body) st' K) K)
      | _, _ => False) := h
   rw [hfn] at h'
   simp only [hbody] at h'
   rw [if_neg (by omega), hfind] at h'
   split at h'
   ·rename_i a' li ha hli
    simp only [Option.some.injEq] at ha
    subst ha
    have hwp := qKl hC hm hcalls (ih2 f fn c hfn hbody) hN body (qGs hall hfind) (qHf hseq hfind) ρ st a w _ hr h'
    refine qDm.round (wp_mono hwp fun e a' w' hq => ?_)
    cases e with
    | normal =>
     obtain ⟨ρ', st', hr', hk⟩ := hq
     obtain ⟨ρ2, st2, hr2, hk2⟩ := wR hr' hk
     exact (ih2 f fn c hfn hbody).2 body hlt hfind φ ρ2 st2 a' w' K hr2 hN hk2
    | exit j =>
     obtain ⟨ρ', st', hr', hk⟩ := hq
     have hk' : (match qO j li.exits with
      | some k => vN k st' (K (.exit j))
      | none => False) := hk
     split at hk'
     ·exact wR hr' hk'
     ·exact hk'.elim
    | ret =>
     obtain ⟨ρ', st', hr', hk⟩ := hq
     exact wR (k := li.ret) hr' hk
    | goto l => exact hq.elim
    | panic c => exact hq.elim
    | outgrown => exact hq.elim
   ·exact h'.elim
theorem qEA {P : Program} {C : Ctx} {X0 : jG} (hC : jT P C) (hm : P.follows .mixedOrders = true) (hf : qGx P C) (hX : qB6 P C X0) {n : Nat} {f : FuncId} {fn : Func} {c : Code} (hfn : C.fs f = some fn) (hb : fn.body = some c) {args : List SV} {K : RES -> Prop}
  (h : callM C X0 n f args K) (hsmall : vM args = true) {vs : List Value} {w : World} {F B : Nat -> Prop} (htab : TabOK F w) (hs : Sep (BV F w) args B vs) (hF : ∀ y, F y -> y < w.heap.size) (hB : ∀ y, B y -> ¬ F y /\ y < w.heap.size) :
  Calls P f vs.toArray w fun e w' => ∃ v r, e = .returned v /\ K r /\ qNp F B w w' (C.fi f).modes vs r v := by
 have h' : (qB8 C X0 n).call f args K := by unfold callM at h; exact h
 cases n with
 | zero => exact h'.elim
 | succ n =>
  obtain ⟨ih1, ih2⟩ := qJQ hC hm hf hX n
  have hcalls : yZ P C (qB8 C X0 n).call := qDP ih1
  have h2 : (match C.fs f with
    | none => X0 f args K
    | some fn => match fn.body with
     | none => X0 f args K
     | some c => evC C (qB8 C X0 n).call fn.ntmps (C.fi f) ((qB8 C X0 n).loop f) c (enter (C.fi f).modes args) (qCc C fn (C.fi f) args K)) := h'
  rw [hfn] at h2
  simp only [hb] at h2
  exact qEb hC hm hf hcalls hfn hb (ih2 f fn c hfn hb) h2 hsmall htab hs hF hB
def zY : List Ty -> Ty
 | [] => .unit
 | [a] => a
 | a :: b :: r => .prod a (zY (b :: r))
def yW (P : Program) (rec : TypeId -> Option (List Ty)) : List Field -> Nat -> Option (List Ty)
 | [], _ => some []
 | f :: r, off => match rec f.type with
  | some ls => if f.offset = off /\ P.cellsOf f.type = ls.length then (match yW P rec r (off + ls.length) with
    | some ls' => some (ls ++ ls')
    | none => none) else none
  | none => none
def xR (P : Program) : Nat -> TypeId -> Option (List Ty)
 | 0, _ => none
 | n + 1, t => match P.underlying t with
  | some (.int k) => some [.int k]
  | some .bool => some [.bool]
  | some .string => some [.str]
  | some (.slice e) => match xR P n e with
   | some ls => if P.cellsOf e = ls.length /\ ls ≠ [] then some [.sl e (zY ls)] else none
   | none => none
  | some (.struct fs) => match yW P (xR P n) fs.toList 0 with
   | some ls => if P.cellsOf t = ls.length then some ls else none
   | none => none
  | _ => none
def qBu (P : Program) (n : Nat) : List Field -> Nat -> Option (List Ty) := yW P (xR P n)
def Good : (t : Ty) -> t.T -> Prop
 | .int k, n => k.min <= n /\ n <= k.max
 | .str, s => s.length <= 9223372036854775807
 | .sl _ t, l => l.length <= 9223372036854775807 /\ ∀ i (h : i < l.length), Good t l[i]
 | .prod a b, p => Good a p.1 /\ Good b p.2
 | _, _ => True
def One (t : Ty) : Prop := t.sz = 1
theorem qFD : ∀ {ls : List Ty}, (∀ t ∈ ls, One t) -> (zY ls).sz = ls.length
 | [], _ => rfl
 | [a], h => h a List.mem_cons_self
 | a :: b :: r, h => by
  have := qFD (ls := b :: r) fun t ht => h t (List.mem_cons_of_mem _ ht)
  have h1 : a.sz = 1 := h a List.mem_cons_self
  simp only [zY, Ty.sz, this, h1, List.length_cons]
  omega
mutual
theorem qDT {P : Program} : ∀ {n : Nat} {t : TypeId} {ls : List Ty}, xR P n t = some ls -> ∀ u ∈ ls, One u
 | 0, t, ls, h => by simp [xR] at h
 | n + 1, t, ls, h => by
  unfold xR at h
  split at h
  ·simp only [Option.some.injEq] at h; subst h; intro u hu; simp only [List.mem_singleton] at hu; subst hu; rfl
  ·simp only [Option.some.injEq] at h; subst h; intro u hu; simp only [List.mem_singleton] at hu; subst hu; rfl
  ·simp only [Option.some.injEq] at h; subst h; intro u hu; simp only [List.mem_singleton] at hu; subst hu; rfl
  ·split at h
   ·split at h
    ·simp only [Option.some.injEq] at h; subst h; intro u hu; simp only [List.mem_singleton] at hu; subst hu; rfl
    ·cases h
   ·cases h
  ·split at h
   ·rename_i l hl
    split at h
    ·simp only [Option.some.injEq] at h; subst h; exact qCU hl
    ·cases h
   ·cases h
  ·cases h
theorem qCU {P : Program} : ∀ {n : Nat} {fs : List Field} {off : Nat} {ls : List Ty}, qBu P n fs off = some ls -> ∀ u ∈ ls, One u
 | n, [], off, ls, h => by unfold qBu yW at h; simp only [Option.some.injEq] at h; subst h; intro u hu; cases hu
 | n, f :: r, off, ls, h => by
  unfold qBu yW at h
  split at h
  ·rename_i l1 h1
   split at h
   ·split at h
    ·rename_i l2 h2
     simp only [Option.some.injEq] at h; subst h
     intro u hu
     rcases List.mem_append.1 hu with hu | hu
     ·exact qDT h1 u hu
     ·exact qCU h2 u hu
    ·cases h
   ·cases h
  ·cases h
end
def qGy (w : World) (ls : List Ty) (cs : List Value) : Prop := ∃ x : (zY ls).T, Rd (fun y => y < w.heap.size) w (zY ls) x cs /\ Good (zY ls) x
theorem qKT {F : Nat -> Prop} {w : World} {x : Unit} {cs : List Value} (h : Rd F w .unit x cs) : cs = [] := by rw [Rd] at h; exact h
theorem qHh {F : Nat -> Prop} {w : World} {a b : Ty} {p : a.T × b.T} {cs : List Value} : Rd F w (.prod a b) p cs ↔ ∃ v1 v2, cs = v1 ++ v2 /\ Rd F w a p.1 v1 /\ Rd F w b p.2 v2 := by rw [Rd]
theorem qGy.join {w : World} : ∀ {l1 l2 : List Ty} {c1 c2 : List Value}, qGy w l1 c1 -> qGy w l2 c2 -> qGy w (l1 ++ l2) (c1 ++ c2)
 | [], l2, c1, c2, ⟨x, h, _⟩, h2 => by
  have : c1 = [] := qKT h
  subst this; exact h2
 | [a], [], c1, c2, h1, ⟨y, h, _⟩ => by
  have : c2 = [] := qKT h
  subst this; simpa using h1
 | [a], b :: r, c1, c2, ⟨x, h1, g1⟩, ⟨y, h2, g2⟩ => ⟨(x, y), qHh.2 ⟨c1, c2, rfl, h1, h2⟩, g1, g2⟩
 | a :: b :: r, l2, c1, c2, ⟨x, h1, g1⟩, h2 => by
  obtain ⟨v1, v2, rfl, k1, k2⟩ := qHh.1 h1
  obtain ⟨z, q1, q2⟩ := qGy.join (l1 := b :: r) (l2 := l2) ⟨x.2, k2, g1.2⟩ h2
  exact ⟨(x.1, z), qHh.2 ⟨v1, v2 ++ c2, by simp, k1, q1⟩, g1.1, q2⟩
theorem qJS {α : Type} {Q : Nat -> α -> Prop} : ∀ (n : Nat), (∀ i, i < n -> ∃ x, Q i x) -> ∃ l : List α, l.length = n /\ ∀ i (h : i < l.length), Q i l[i]
 | 0, _ => ⟨[], rfl, fun i h => by simp at h⟩
 | n + 1, h => by
  obtain ⟨l, h1, h2⟩ := qJS n fun i hi => h i (by omega)
  obtain ⟨x, hx⟩ := h n (by omega)
  refine ⟨l ++ [x], by simp [h1], fun i hi => ?_⟩
  simp only [List.length_append, List.length_cons, List.length_nil] at hi
  by_cases hin : i < l.length
  ·rw [List.getElem_append_left hin]; exact h2 i hin
  ·have : i = n := by omega
   subst this
   rw [List.getElem_append_right (by omega)]
   simpa [h1] using hx
theorem qLw {α β : Type} {f : α -> Option β} : ∀ {l : List α} {r : List β}, l.mapM f = some r -> l.length = r.length /\ ∀ (i : Nat) a, l[i]? = some a -> ∃ b, r[i]? = some b /\ f a = some b
 | [], r, h => by simp only [List.mapM_nil, Option.pure_def, Option.some.injEq] at h; subst h; exact ⟨rfl, fun i a h => by simp at h⟩
 | x :: l, r, h => by
  simp only [List.mapM_cons, Option.bind_eq_bind, Option.bind_eq_some_iff, Option.pure_def, Option.some.injEq] at h
  obtain ⟨b, hb, bs, hbs, rfl⟩ := h
  obtain ⟨h1, h2⟩ := qLw hbs
  refine ⟨by simp [h1], fun i a ha => ?_⟩
  cases i with
  | zero => simp only [List.getElem?_cons_zero, Option.some.injEq] at ha; subst ha; exact ⟨b, rfl, hb⟩
  | succ i => exact h2 i a (by simpa using ha)
section
variable {H : Type} {enc : TypeId × Value -> H} {P : Program} {w : World}
theorem qM6 {a : Addr} {v : Value} (h : w.cell? a = some v) : ∃ b o, a = ⟨b, o, none⟩ /\ b < w.heap.size := by
 obtain ⟨b, o, sp⟩ := a
 have hs : sp = none := World.cell?_spot h
 subst hs
 refine ⟨b, o, rfl, ?_⟩
 obtain ⟨cs, e, fr, h1, _⟩ := zA.1 h
 rcases Nat.lt_or_ge b w.heap.size with h' | h'
 ·exact h'
 ·simp [Array.getElem?_eq_none h'] at h1
theorem qA2 {n m : Nat} (ih : ∀ {fuel : Nat} {t : TypeId} {ls : List Ty} {cs : List Value} {q : DataW H × List MemPlace}, xR P n t = some ls -> DataW.trod enc P w 0 (fun _ => true) true fuel t cs = some q -> qGy w ls cs) :
  ∀ {fs : List Field} {off : Nat} {ls : List Ty} {cs : List Value}, qBu P n fs off = some ls -> cs.length = off + ls.length ->
  (∀ (i : Nat) (f : Field), fs[i]? = some f -> ∃ q, DataW.trod enc P w 0 (fun _ => true) true m f.type ((cs.drop f.offset).take (P.cellsOf f.type)) = some q) -> qGy w ls (cs.drop off)
 | [], off, ls, cs, h, hl, _ => by
  unfold qBu yW at h
  simp only [Option.some.injEq] at h; subst h
  have : cs.drop off = [] := by simp at hl; simp [hl]
  rw [this]
  exact ⟨(), by show Rd _ _ .unit () _; rw [Rd], trivial⟩
 | f :: r, off, ls, cs, h, hl, hat => by
  unfold qBu yW at h
  split at h
  ·rename_i l1 h1
   split at h
   ·rename_i hh
    obtain ⟨ho, hsz⟩ := hh
    split at h
    ·rename_i l2 h2
     simp only [Option.some.injEq] at h; subst h
     simp only [List.length_append] at hl
     obtain ⟨q, hq⟩ := hat 0 f rfl
     rw [ho, hsz] at hq
     have d1 := ih h1 hq
     have d2 := qA2 ih h2 (by omega) fun i g hg => hat (i + 1) g (by simpa using hg)
     have e : cs.drop off = (cs.drop off).take l1.length ++ cs.drop (off + l1.length) := by
      rw [<- List.drop_drop]; exact (List.take_append_drop _ _).symm
     rw [e]
     exact d1.join d2
    ·cases h
   ·cases h
  ·cases h
theorem xQ : ∀ (n : Nat) {fuel : Nat} {t : TypeId} {ls : List Ty} {cs : List Value} {q : DataW H × List MemPlace}, xR P n t = some ls -> DataW.trod enc P w 0 (fun _ => true) true fuel t cs = some q -> qGy w ls cs
 | 0, fuel, t, ls, cs, q, h, _ => by simp [xR] at h
 | n + 1, fuel, t, ls, cs, q, h, ht => by
  unfold xR at h
  split at h
  ·rename_i k hu
   simp only [Option.some.injEq] at h; subst h
   obtain ⟨m, rfl, _, hw⟩ := DataW.trod_int hu ht
   simp only [Lit.wf, Bool.and_eq_true, decide_eq_true_eq] at hw
   exact ⟨m, by show Rd _ _ (.int k) m _; rw [Rd], hw⟩
  ·rename_i hu
   simp only [Option.some.injEq] at h; subst h
   obtain ⟨b, rfl, _⟩ := DataW.trod_bool hu ht
   exact ⟨b, by show Rd _ _ .bool b _; rw [Rd], trivial⟩
  ·rename_i hu
   simp only [Option.some.injEq] at h; subst h
   obtain ⟨s, rfl, _, hs⟩ := DataW.trod_string hu ht
   exact ⟨s.data.toList, by show Rd _ _ .str s.data.toList _; rw [Rd], hs⟩
  ·rename_i e hu
   split at h
   ·rename_i l1 hl1
    split at h
    ·rename_i hh
     simp only [Option.some.injEq] at h; subst h
     obtain ⟨hsz, hne⟩ := hh
     have hpos : 0 < l1.length := List.length_pos_iff.2 hne
     have hszu : (zY l1).sz = l1.length := qFD (qDT hl1)
     rcases DataW.trod_slice hu ht with ⟨rfl, _⟩ | ⟨a, len, cap, qEI, rest, m, _, rfl, _, _, hlc, hcm, hel, hat, _, _⟩
     ·refine ⟨([] : List (zY l1).T), ?_, ⟨by show (0 : Nat) <= _; omega, fun i hi => by simp at hi⟩⟩
      show Rd _ _ (.sl e (zY l1)) [] _
      rw [kD]
      exact ⟨_, rfl, none, 0, rfl, Nat.le_refl _, fun i hi => by simp at hi⟩
     ·have spot0 : 0 < len -> a.spot = none := by
       intro hi
       have h1 := hat 0 hi
       rw [List.getElem?_eq_getElem (by omega), Option.bind_eq_some_iff] at h1
       obtain ⟨cs', hc1, _⟩ := h1
       obtain ⟨_, hlen, hcell⟩ := World.cells?_some hc1
       have c0 := hcell 0 (by omega)
       rw [List.getElem?_eq_getElem (by omega)] at c0
       have := World.cell?_spot c0
       simpa [Addr.add] using this
      have each : ∀ i, i < len -> ∃ x : (zY l1).T, (∃ b off cs', a = ⟨b, off, none⟩ /\ b < w.heap.size /\ qZ w b (off + i * (zY l1).sz) cs' /\ Rd (fun y => y < w.heap.size) w (zY l1) x cs') /\ Good (zY l1) x := by
       intro i hi
       have h1 := hat i hi
       have h2 : ∃ y, qEI[i]? = some y := ⟨qEI[i]'(by omega), List.getElem?_eq_getElem (by omega)⟩
       obtain ⟨y, hy⟩ := h2
       rw [hy, Option.bind_eq_some_iff] at h1
       obtain ⟨cs', hc1, hc2⟩ := h1
       obtain ⟨_, hlen, hcell⟩ := World.cells?_some hc1
       obtain ⟨x, hx1, hx2⟩ := xQ n hl1 hc2
       have c0 := hcell 0 (by omega)
       have hlt0 : 0 < cs'.length := by omega
       rw [List.getElem?_eq_getElem hlt0] at c0
       obtain ⟨b', o', e1, hb⟩ := qM6 c0
       obtain ⟨b, off, sp⟩ := a
       have hsp : sp = none := spot0 (by omega)
       subst hsp
       refine ⟨x, ⟨b, off, cs', rfl, ?_, ?_, hx1⟩, hx2⟩
       ·rw [vE, vE] at e1
        simp only [Addr.mk.injEq, and_true] at e1
        rw [e1.1]; exact hb
       ·intro j hj
        have := hcell j (by omega)
        rw [vE, vE, List.getElem?_eq_getElem hj] at this
        rw [hszu, <- hsz]; exact this
      obtain ⟨l, hl1', hl2⟩ := qJS len each
      refine ⟨l, ?_, ⟨?_, fun i hi => (hl2 i hi).2⟩⟩
      ·show Rd _ _ (.sl e (zY l1)) l _
       rw [kD]
       refine ⟨_, rfl, some a, cap, by rw [hl1'], by omega, fun i hi => ?_⟩
       obtain ⟨⟨b, off, cs', q1, q2, q3, q4⟩, _⟩ := hl2 i hi
       exact ⟨b, off, cs', by rw [q1], q2, q3, q4⟩
      ·show l.length <= _
       unfold maxLen at hcm; omega
    ·cases h
   ·cases h
  ·rename_i fs hu
   split at h
   ·rename_i l1 hl1
    split at h
    ·rename_i hsz
     simp only [Option.some.injEq] at h; subst h
     obtain ⟨xs, m, _, _, hlen, hxl, hat⟩ := DataW.trod_struct hu ht
     have key := qA2 (cs := cs) (m := m) (xQ n) hl1 (by omega) fun i f hf => by
      have := hat i f (by simpa using hf)
      have hi : i < xs.length := by
       have := (List.getElem?_eq_some_iff.1 hf).1
       simp only [Array.length_toList] at this
       omega
      rw [List.getElem?_eq_getElem hi] at this
      exact ⟨_, this⟩
     simpa using key
    ·cases h
   ·cases h
  ·cases h
end
open Go.RowKit
structure Par where
 t : TypeId
 ls : List Ty
 agg : Bool
abbrev Dat : List Par -> Type
 | [] => Unit
 | p :: r => (zY p.ls).T × Dat r
def GoodD : (ps : List Par) -> Dat ps -> Prop
 | [], _ => True
 | p :: r, x => Good (zY p.ls) x.1 /\ GoodD r x.2
def svs : (ps : List Par) -> Dat ps -> List SV
 | [], _ => []
 | p :: r, x => (match p.agg with
  | true => SV.agg ((zY p.ls).cells x.1)
  | false => match (zY p.ls).cells x.1 with
   | c :: _ => SV.c c
   | [] => SV.undef) :: svs r x.2
structure ParOK (P : Program) (p : Par) : Prop where
 lv : xR P 20 p.t = some p.ls
 yes : p.agg = true -> ∃ fs, P.underlying p.t = some (.struct fs)
 no : p.agg = false -> (∃ k, P.underlying p.t = some (.int k)) \/ P.underlying p.t = some .bool \/ P.underlying p.t = some .string \/ ∃ e, P.underlying p.t = some (.slice e)
 rd : P.readableRec p.t = true
 row : p.t < P.types.size
def CV.isData : CV -> Bool
 | .int .. | .bool _ | .str _ | .dat .. | .pdat .. => true
 | _ => false
theorem qGl : ∀ {t : Ty} {x : t.T}, ∀ c ∈ t.cells x, c.isData = true := by
 intro t
 induction t with
 | prod a b iha ihb =>
  intro x c hc
  simp only [Ty.cells] at hc
  rcases List.mem_append.1 hc with hc | hc
  ·exact iha c hc
  ·exact ihb c hc
 | unit => intro x c hc; cases hc
 | _ => intro x c hc; simp only [Ty.cells, List.mem_singleton] at hc; subst hc; rfl
theorem qPr {F G : Nat -> Prop} {w : World} {c : CV} {v : Value} (hp : c.isData = true) (h : DC F w c v) : BC0 F w c G v := by
 cases c <;> simp [CV.isData] at hp <;> exact ⟨rfl, h⟩
section
variable {H : Type} {enc : TypeId × Value -> H} {P : Program} {w : World}
theorem qNS {p : Par} (hp : ParOK P p) {base : Nat} {v : Value} {d : DataW H} {q : List MemPlace} (hval : Value.okWide P w .any base p.t v) (hd : DataW.Trod enc P w 0 (fun _ => true) true p.t v d q) :
  ∃ x : (zY p.ls).T, Good (zY p.ls) x /\ BV (fun y => y < w.heap.size) w (match p.agg with
   | true => SV.agg ((zY p.ls).cells x)
   | false => match (zY p.ls).cells x with
    | c :: _ => SV.c c
    | [] => SV.undef) (fun _ => False) v := by
 obtain ⟨fuel, hf⟩ := hd
 obtain ⟨x, h1, h2⟩ := xQ 20 hp.lv hf
 refine ⟨x, h2, ?_⟩
 have hc := qCn h1
 have hs : Sep (BC0 (fun y => y < w.heap.size) w) ((zY p.ls).cells x) (fun _ => False) v.cells.toList := by
  have : jN (fun c v => c.isData = true /\ DC (fun y => y < w.heap.size) w c v) ((zY p.ls).cells x) v.cells.toList := hc.impMem fun c v hcm hv => ⟨qGl c hcm, hv⟩
  exact Sep.of_all2 (fun c v hh => qPr hh.1 hh.2) this
 cases hagg : p.agg with
 | true =>
  obtain ⟨fs, hu⟩ := hp.yes hagg
  obtain ⟨cs, rfl, _⟩ := WideShapes.okWide_struct hu hval
  exact ⟨cs, rfl, hs⟩
 | false =>
  have hv : v.cells = #[v] := by
   rcases hp.no hagg with ⟨k, hu⟩ | hu | hu | ⟨e, hu⟩
   ·obtain ⟨n, rfl⟩ := WideShapes.okWide_int hu hval; rfl
   ·obtain ⟨n, rfl⟩ := WideShapes.okWide_bool hu hval; rfl
   ·obtain ⟨n, rfl⟩ := WideShapes.okWide_string hu hval; rfl
   ·obtain ⟨a, l, c, rfl⟩ := WideShapes.okWide_slice hu hval; rfl
  rw [hv] at hs
  match hcs : (zY p.ls).cells x, hs with
  | [], hs => exact hs.elim
  | [c], hs =>
   obtain ⟨B1, B2, k1, k2, k3, _⟩ := hs
   simp only
   exact kZ (qE0 (fun y hy => (k1 y hy).1) k3)
  | c :: c' :: r, hs => obtain ⟨B1, B2, k1, k2, k3, k4⟩ := hs; exact k4.elim
theorem qKH : ∀ {ps : List Par} {vs : List Value} {ds : List (DataW H)} {q : List MemPlace}, (∀ p ∈ ps, ParOK P p) -> (∀ (j : Nat) t v, (ps.map (·.t))[j]? = some t -> vs[j]? = some v -> ∃ base, Value.okWide P w .any base t v) ->
  DataW.TrodAll enc P w 0 (fun _ => true) true (ps.map (·.t)) vs ds q -> ∃ x : Dat ps, GoodD ps x /\ Sep (BV (fun y => y < w.heap.size) w) (svs ps x) (fun _ => False) vs
 | [], vs, ds, q, _, _, h => by
  obtain ⟨rfl, _, _⟩ := ChangeShapes.trodAll_nil h
  exact ⟨(), trivial, trivial⟩
 | p :: ps, vs, ds, q, hp, hval, h => by
  obtain ⟨v, vs', d, ds', q1, q2, rfl, rfl, rfl, h1, h2⟩ := ChangeShapes.trodAll_cons h
  obtain ⟨base, hv⟩ := hval 0 p.t v rfl rfl
  obtain ⟨x, g1, g2⟩ := qNS (hp p List.mem_cons_self) hv h1
  obtain ⟨y, g3, g4⟩ := qKH (fun p' hp' => hp p' (List.mem_cons_of_mem _ hp')) (fun j t v ht hv => hval (j + 1) t v (by simpa using ht) (by simpa using hv)) h2
  exact ⟨(x, y), ⟨g1, g3⟩, fun _ => False, fun _ => False, fun _ h => h.elim, fun _ h => h, g2, g4⟩
theorem yP (hl : laidOutB P = true) {W W' : World} (hb : Below W.heap.size W W') : ∀ {ps : List Par} {vs : List Value} {ds : List (DataW H)} {q : List MemPlace}, (∀ p ∈ ps, ParOK P p) ->
  DataW.TrodAll enc P W 0 (fun _ => true) true (ps.map (·.t)) vs ds q -> (∀ x ∈ q, x.block < W.heap.size) -> DataW.TrodAll enc P W' 0 (fun b => decide (b < W.heap.size)) true (ps.map (·.t)) vs ds q
 | [], vs, ds, q, _, h, _ => by
  obtain ⟨rfl, rfl, rfl⟩ := ChangeShapes.trodAll_nil h
  rfl
 | p :: ps, vs, ds, q, hp, h, hlt => by
  obtain ⟨v, vs', d, ds', q1, q2, rfl, rfl, rfl, h1, h2⟩ := ChangeShapes.trodAll_cons h
  have hp1 := hp p List.mem_cons_self
  exact ⟨q1, q2, Below.trod hl hp1.rd hp1.row h1 hb (fun x hx => hlt x (List.mem_append_left _ hx)), yP hl hb (fun p' hp' => hp p' (List.mem_cons_of_mem _ hp')) h2 (fun x hx => hlt x (List.mem_append_right _ hx)), rfl⟩
end
theorem qFU {P : Program} {C : Ctx} {X0 : jG} (hC : jT P C) (hm : P.follows .mixedOrders = true) (hf : qGx P C) (hX : qB6 P C X0) {f : FuncId} {fn : Func} {c : Code} (hfn : C.fs f = some fn) (hb : fn.body = some c)
  {ps : List Par} (hps : ∀ p ∈ ps, ParOK P p) (hsmall : ∀ x, vM (svs ps x) = true) (law : ∀ x : Dat ps, GoodD ps x -> ∃ n, callM C X0 n f (svs ps x) (fun r => r.ret = .c (.bool true)))
  {H : Type} {enc : TypeId × Value -> H} {W : World} {vs : List Value} {ds : List (DataW H)} {q : List MemPlace} (hval : ∀ (j : Nat) t v, (ps.map (·.t))[j]? = some t -> vs[j]? = some v -> ∃ base, Value.okWide P W .any base t v)
  (hd : DataW.TrodAll enc P W 0 (fun _ => true) true (ps.map (·.t)) vs ds q) (htab : TabOK (fun y => y < W.heap.size) W) : Calls P f vs.toArray W fun e W' => e = .returned (.bool true) /\ Below W.heap.size W W' := by
 obtain ⟨x, g1, g2⟩ := qKH hps hval hd
 obtain ⟨n, hn⟩ := law x g1
 refine (qEA hC hm hf hX hfn hb hn (hsmall x) htab g2 (fun y hy => hy) (fun y hy => hy.elim)).mono fun e W' ⟨v, r, he, hk, hp⟩ => ?_
 obtain ⟨h1, h2, h3, F', B1, B2, _, _, _, _, h4, _⟩ := hp
 rw [hk] at h4
 have hv : v = .bool true := h4.2
 subst hv
 exact ⟨he, h2.1, h2.2.1, h2.2.2, h1, fun k hk => h3 k hk (fun h => h)⟩
theorem law_lifted {Ck : Checked} {C : Ctx} {X0 : jG} {os : Os} (own : ownKnob Ck.prog.godebug = none) (started : os.Started) (hC : jT Ck.prog C) (hm : Ck.prog.follows .mixedOrders = true) (hf : qGx Ck.prog C) (hX : qB6 Ck.prog C X0) {f : FuncId} {fn : Func} {c : Code}
  (hfn : C.fs f = some fn) (hb : fn.body = some c) (hinit : Ck.prog.inits.idxOf? f = none) (hlaid : laidOutB Ck.prog = true) {ps : List Par} (hps : ∀ p ∈ ps, ParOK Ck.prog p) (hpar : fn.params.toList = ps.map (·.t)) {tb : TypeId} (hres : fn.resultTypes = #[tb]) (hbool : Ck.prog.underlying tb = some .bool)
  (hsmall : ∀ x, vM (svs ps x) = true) (law : ∀ x : Dat ps, GoodD ps x -> ∃ n, callM C X0 n f (svs ps x) (fun r => r.ret = .c (.bool true)))
  {H : Type} {enc : TypeId × Value -> H} {s : ChangeSpec} (htabs : ∀ W, TabOK (fun y => y < W.heap.size) W) (hvars : s.vars = []) (hspec : ∀ ds : List (DataW H), ds.length = ps.length -> s.fn H ds = { results := [.lit (.bool true)], args := ds }) {conds : List PathCond} {apart fresh handsOn : Bool}
  (witness : ∃ (w : World) (tape : Tape) (i : Input), w.os = os /\ (w.forCall tape i).Shaped Ck.prog /\ i.vars = [] /\ Input.okWide Ck.prog (w.forCall tape i) .any w.heap.size f i /\
   s.pre6 enc Ck.prog fn conds apart (w.forCall tape i).memory i.args /\ ({} : Assume).holds Ck.prog (lone (Frame.enter Ck.prog f i.args .normal) [] (w.forCall tape i))) :
  ReturnsInHanded {} Ck os f .any (s.pre6 enc Ck.prog fn conds apart) (s.post enc Ck.prog fn apart fresh handsOn false) := by
 refine returnsInHanded_of_change_sized own started hinit (hC.fs f fn hfn) witness ?_
 intro W base args ds gs before hval hW _ _ _
 have hW' := hW
 obtain ⟨p, q, hA, hV, rfl, _, _⟩ := hW
 rw [hvars] at hV
 obtain ⟨rfl, rfl⟩ := ChangeShapes.trodVars_none hV
 have hA' : DataW.TrodAll enc Ck.prog W 0 (fun _ => true) true (ps.map (·.t)) args.toList ds p := by rw [<- hpar]; exact hA
 have hlen : ds.length = ps.length := by
  have : ∀ {ts : List TypeId} {vs : List Value} {ds : List (DataW H)} {q : List MemPlace}, DataW.TrodAll enc Ck.prog W 0 (fun _ => true) true ts vs ds q -> ds.length = ts.length := by
   intro ts
   induction ts with
   | nil => intro vs ds q h; obtain ⟨_, rfl, _⟩ := ChangeShapes.trodAll_nil h; rfl
   | cons t ts ih => intro vs ds q h; obtain ⟨v, vs', d, ds', q1, q2, rfl, rfl, rfl, h1, h2⟩ := ChangeShapes.trodAll_cons h; simp [ih h2]
  have := this hA'
  simpa using this
 have hcalls := qFU hC hm hf hX hfn hb hps hsmall law (vs := args.toList) (W := W) (fun j t v ht hv => ⟨base, hval j t v (by rw [<- Array.getElem?_toList, hpar]; exact ht) (by rw [<- Array.getElem?_toList]; exact hv)⟩) hA' (htabs W)
 rw [show args.toList.toArray = args by simp] at hcalls
 refine hcalls.mono fun e W' ⟨he, hnx⟩ => ?_
 subst he
 have hsp := hspec (ds ++ []) (by simpa using hlen)
 have hlt : ∀ x ∈ p, x.block < W.heap.size := fun x hx => hW'.lt x (by simpa using hx)
 refine ⟨_, rfl, ds, [], _, [], p, [], hW', ?_, ?_, ?_, hnx.frame _, fun h => by cases h⟩
 ·rw [hsp, hres]
  refine ChangeShapes.trodAll_mk1 ⟨1, ?_⟩
  simp [DataW.trod, Value.cells, hbool]
 ·rw [hsp, hpar]
  simp only [List.append_nil]
  exact yP hlaid hnx hps hA' hlt
 ·rw [hsp, hvars]
  rfl
theorem law_lifted_laid {Ck : Checked} {C : Ctx} {X0 : jG} {os : Os} (own : ownKnob Ck.prog.godebug = none) (started : os.Started) (hC : jT Ck.prog C) (hm : Ck.prog.follows .mixedOrders = true) (hf : qGx Ck.prog C) (hX : qB6 Ck.prog C X0) {f : FuncId} {fn : Func} {c : Code}
  (hfn : C.fs f = some fn) (hb : fn.body = some c) (hinit : Ck.prog.inits.idxOf? f = none) (hlaid : laidOutB Ck.prog = true) {ps : List Par} (hps : ∀ p ∈ ps, ParOK Ck.prog p) (hpar : fn.params.toList = ps.map (·.t)) {tb : TypeId} (hres : fn.resultTypes = #[tb]) (hbool : Ck.prog.underlying tb = some .bool)
  (hsmall : ∀ x, vM (svs ps x) = true) (law : ∀ x : Dat ps, GoodD ps x -> ∃ n, callM C X0 n f (svs ps x) (fun r => r.ret = .c (.bool true)))
  {H : Type} {enc : TypeId × Value -> H} {s : ChangeSpec} {X : World -> Prop} (hXh : ∀ w w' : World, w.heap = w'.heap -> X w -> X w') (htabs : ∀ W, X W -> TabOK (fun y => y < W.heap.size) W) (hvars : s.vars = []) (hspec : ∀ ds : List (DataW H), ds.length = ps.length -> s.fn H ds = { results := [.lit (.bool true)], args := ds }) {conds : List PathCond} {apart fresh handsOn : Bool}
  (witness : ∃ (w : World) (tape : Tape) (i : Input), w.os = os /\ (w.forCall tape i).Shaped Ck.prog /\ i.vars = [] /\ Input.okWide Ck.prog (w.forCall tape i) .any w.heap.size f i /\
   ((s.pre enc Ck.prog fn conds apart (w.forCall tape i).memory i.args /\ X (w.forCall tape i).memory) /\ sizedMet enc Ck.prog fn (OpenSpec.ofChange s) apart (w.forCall tape i).memory i.args) /\ ({} : Assume).holds Ck.prog (lone (Frame.enter Ck.prog f i.args .normal) [] (w.forCall tape i))) :
  ReturnsInHanded {} Ck os f .any (fun w args => (s.pre enc Ck.prog fn conds apart w args /\ X w) /\ sizedMet enc Ck.prog fn (OpenSpec.ofChange s) apart w args) (s.post enc Ck.prog fn apart fresh handsOn false) := by
 refine returnsInHanded_of_change_and (X := fun w _ => X w) (fun w w' _ hh h => hXh w w' hh h) own started hinit (hC.fs f fn hfn) witness ?_
 intro W base args ds gs before hval hW _ _ hL _
 have hW' := hW
 obtain ⟨p, q, hA, hV, rfl, _, _⟩ := hW
 rw [hvars] at hV
 obtain ⟨rfl, rfl⟩ := ChangeShapes.trodVars_none hV
 have hA' : DataW.TrodAll enc Ck.prog W 0 (fun _ => true) true (ps.map (·.t)) args.toList ds p := by rw [<- hpar]; exact hA
 have hlen : ds.length = ps.length := by
  have : ∀ {ts : List TypeId} {vs : List Value} {ds : List (DataW H)} {q : List MemPlace}, DataW.TrodAll enc Ck.prog W 0 (fun _ => true) true ts vs ds q -> ds.length = ts.length := by
   intro ts
   induction ts with
   | nil => intro vs ds q h; obtain ⟨_, rfl, _⟩ := ChangeShapes.trodAll_nil h; rfl
   | cons t ts ih => intro vs ds q h; obtain ⟨v, vs', d, ds', q1, q2, rfl, rfl, rfl, h1, h2⟩ := ChangeShapes.trodAll_cons h; simp [ih h2]
  have := this hA'
  simpa using this
 have hcalls := qFU hC hm hf hX hfn hb hps hsmall law (vs := args.toList) (W := W) (fun j t v ht hv => ⟨base, hval j t v (by rw [<- Array.getElem?_toList, hpar]; exact ht) (by rw [<- Array.getElem?_toList]; exact hv)⟩) hA' (htabs W hL)
 rw [show args.toList.toArray = args by simp] at hcalls
 refine hcalls.mono fun e W' ⟨he, hnx⟩ => ?_
 subst he
 have hsp := hspec (ds ++ []) (by simpa using hlen)
 have hlt : ∀ x ∈ p, x.block < W.heap.size := fun x hx => hW'.lt x (by simpa using hx)
 refine ⟨_, rfl, ds, [], _, [], p, [], hW', ?_, ?_, ?_, hnx.frame _, fun h => by cases h⟩
 ·rw [hsp, hres]
  refine ChangeShapes.trodAll_mk1 ⟨1, ?_⟩
  simp [DataW.trod, Value.cells, hbool]
 ·rw [hsp, hpar]
  simp only [List.append_nil]
  exact yP hlaid hnx hps hA' hlt
 ·rw [hsp, hvars]
  rfl
def qIt : List CV -> List Value -> Bool
 | [], [] => true
 | c :: cs, v :: vs => (match c, v with
  | .int k n, .int k' m => decide (k = k') && decide (n = m)
  | .bool b, .bool b' => b == b'
  | .str s, .string x => s == x.data.toList
  | .emp _ _, .slice none 0 0 => true
  | .kon (.pointer none), .pointer none => true
  | .kon .nilFunc, .nilFunc => true
  | .kon .nilIface, .nilIface => true
  | .kon (.map none), .map none => true
  | .undef, v => v.oneCell'
  | _, _ => false) && qIt cs vs
 | _, _ => false
theorem qEi {ρ : Env} {w : World} : ∀ {cs : List CV} {vs : List Value}, qIt cs vs = true -> jN (zP ρ w) cs vs /\ ∀ c ∈ cs, ∀ e t l, c ≠ .dat e t l
 | [], [], _ => ⟨trivial, fun c hc => by cases hc⟩
 | [], _ :: _, h => by simp [qIt] at h
 | _ :: _, [], h => by simp [qIt] at h
 | c :: cs, v :: vs, h => by
  simp only [qIt, Bool.and_eq_true] at h
  obtain ⟨h1, h2⟩ := h
  obtain ⟨q1, q2⟩ := qEi (ρ := ρ) (w := w) h2
  have key : zP ρ w c v /\ ∀ e t l, c ≠ .dat e t l := by
   split at h1
   ·rename_i k n k' m
    simp only [Bool.and_eq_true, decide_eq_true_eq] at h1
    obtain ⟨rfl, rfl⟩ := h1
    exact ⟨rfl, by intro e t l hh; cases hh⟩
   ·rename_i b b'
    have : b = b' := by simpa using h1
    subst this
    exact ⟨rfl, by intro e t l hh; cases hh⟩
   ·rename_i s x
    have : s = x.data.toList := by simpa using h1
    subst this
    exact ⟨rfl, by intro e t l hh; cases hh⟩
   ·exact ⟨⟨none, rfl⟩, by intro e t l hh; cases hh⟩
   ·exact ⟨⟨rfl, rfl⟩, by intro e t l hh; cases hh⟩
   ·exact ⟨⟨rfl, rfl⟩, by intro e t l hh; cases hh⟩
   ·exact ⟨⟨rfl, rfl⟩, by intro e t l hh; cases hh⟩
   ·exact ⟨⟨rfl, rfl⟩, by intro e t l hh; cases hh⟩
   ·exact ⟨h1, by intro e t l hh; cases hh⟩
   ·cases h1
  refine ⟨⟨key.1, q1⟩, fun c' hc' => ?_⟩
  rcases List.mem_cons.1 hc' with rfl | hc'
  ·exact key.2
  ·exact q2 c' hc'
def qBz (P : Program) : List Field -> List (Nat × TypeId) -> Bool
 | [], [] => true
 | f :: fs, (off, t) :: r => f.offset == off && f.type == t && (P.info? t).isSome && qBz P fs r
 | _, _ => false
theorem qD0 {P : Program} : ∀ {fs : List Field} {l : List (Nat × TypeId)}, qBz P fs l = true -> fs.length = l.length /\ ∀ (f : Nat) off ft, l[f]? = some (off, ft) -> ∃ fd : Field, fs[f]? = some fd /\ fd.offset = off /\ fd.type = ft /\ (P.info? ft).isSome = true
 | [], [], _ => ⟨rfl, fun f off ft h => by simp at h⟩
 | [], _ :: _, h => by simp [qBz] at h
 | _ :: _, [], h => by simp [qBz] at h
 | f :: fs, (off, t) :: r, h => by
  simp only [qBz, Bool.and_eq_true, beq_iff_eq] at h
  obtain ⟨⟨⟨h1, h2⟩, h3⟩, h4⟩ := h
  obtain ⟨q1, q2⟩ := qD0 h4
  refine ⟨by simp [q1], fun k off' ft' hk => ?_⟩
  cases k with
  | zero =>
   simp only [List.getElem?_cons_zero, Option.some.injEq, Prod.mk.injEq] at hk
   obtain ⟨rfl, rfl⟩ := hk
   exact ⟨f, rfl, h1, h2, h3⟩
  | succ k => exact q2 k off' ft' (by simpa using hk)
def tiB (P : Program) (t : TypeId) (i : TI) : Bool := match P.info? t, P.underlying t with
 | some inf, some d => decide (inf.size = i.size) && decide (inf.bytes = i.bytes) &&
  (match inf.zero with
   | some z => qIt i.zero z.cells.toList && decide (z.cells.size = i.size) && (match i.isAgg, z with | true, .agg _ => true | true, _ => false | false, .agg _ => false | false, .tuple _ => false | false, _ => true)
   | none => false) &&
  (i.isAgg == (match d with | .struct _ | .array _ _ => true | _ => false)) &&
  (match i.elem with | none => true | some e => (match d with | .slice e' => e == e' | _ => false)) &&
  (match d with | .struct fs => qBz P fs.toList i.fields | _ => i.fields.isEmpty) &&
  (match i.sty, d with
   | some (.int k), .int k' => decide (k = k') | some (.int _), _ => false
   | some .bool, .bool => true | some .bool, _ => false
   | some .str, .string => true | some .str, _ => false
   | some (.sl e _), .slice e' => e == e' | some (.sl _ _), _ => false
   | _, _ => true) &&
  (match i.eqc, d with
   | [], _ => true
   | us, .struct fs => !P.stoodInHeld t && !P.eqGuardType P.depth t && eqB P 0 fs.toList us
   | _, _ => false)
 | _, _ => false
theorem qNt {P : Program} {t : TypeId} {i : TI} (h : tiB P t i = true) : qMv P t i := by
 unfold tiB at h
 split at h
 ·rename_i inf d hinf hund
  simp only [Bool.and_eq_true, decide_eq_true_eq] at h
  obtain ⟨⟨⟨⟨⟨⟨⟨h1, h2⟩, h3⟩, h4⟩, h5⟩, h6⟩, h7⟩, h8⟩ := h
  split at h3
  ·rename_i z hz
   simp only [Bool.and_eq_true, decide_eq_true_eq] at h3
   obtain ⟨⟨k1, k2⟩, k3⟩ := h3
   refine {
    inf := ⟨inf, hinf, h1, h2, z, hz, fun ρ w => (qEi k1).1, k2, fun ha => ?_, fun ha => ?_⟩
    und := ⟨d, hund, by rw [beq_iff_eq.1 h4]; cases d <;> rfl⟩
    elem := fun e he => ?_
    flds := fun fs hfs => ?_
    strct := fun hne => ?_
    nodat := (qEi (ρ := bare fun _ => False) (w := default) k1).2
    tyInt := fun k hk => ?_
    tyBool := fun hk => ?_
    tyStr := fun hk => ?_
    tySl := fun e u hk => ?_
    eqs := fun hne => ?_ }
   ·rw [ha] at k3
    cases z <;> simp at k3
    exact ⟨_, rfl⟩
   ·rw [ha] at k3
    cases z <;> simp at k3 <;> rfl
   ·rw [he] at h5
    cases d <;> simp at h5
    subst h5; exact hund
   ·rw [hfs] at hund
    simp only [Option.some.injEq] at hund
    subst hund
    obtain ⟨q1, q2⟩ := qD0 h6
    refine ⟨by simpa using q1, fun f off ft hf => ?_⟩
    obtain ⟨fd, e1, e2⟩ := q2 f off ft hf
    exact ⟨fd, by simpa using e1, e2⟩
   ·cases d with
    | struct fs => exact ⟨fs, hund⟩
    | _ => simp only [List.isEmpty_iff] at h6; exact absurd h6 hne
   ·rw [hk] at h7
    cases d <;> simp at h7
    subst h7; exact hund
   ·rw [hk] at h7
    cases d <;> simp at h7
    exact hund
   ·rw [hk] at h7
    cases d <;> simp at h7
    exact hund
   ·rw [hk] at h7
    cases d <;> simp at h7
    subst h7; exact hund
   ·split at h8
    ·rename_i he; exact absurd he hne
    ·rename_i us fs he
     simp only [Bool.and_eq_true, Bool.not_eq_true'] at h8
     exact ⟨h8.1.1, h8.1.2, fs, hund, h8.2⟩
    ·cases h8
  ·cases h3
 ·cases h
def qFI : List Nat -> Bool
 | [] => true
 | x :: l => !l.contains x && qFI l
theorem qCN : ∀ {l : List Nat}, qFI l = true -> l.Nodup
 | [], _ => List.nodup_nil
 | x :: l, h => by
  simp only [qFI, Bool.and_eq_true, Bool.not_eq_true', List.contains_eq_mem, decide_eq_false_iff_not] at h
  exact List.nodup_cons.2 ⟨h.1, qCN h.2⟩
def fnB (fi : Fi) (fn : Func) : Bool := !(fn.name == "runtime.NumGoroutine") && match fn.body with
 | some c => qFI (vC c) && qFI (vV (fun k => (qO (1000000 + k) fi.loops).isSome) c)
 | none => true
theorem qNJ {P : Program} {tis : List (Nat × TI)} {fns : List (Nat × Func)} {fi : FuncId -> Fi} (h1 : (tis.all fun x => tiB P x.1 x.2) = true) (h2 : ∀ x ∈ fns, P.funcs[x.1]? = some x.2) :
  jT P { ti := fun t => qO t tis, fs := fun f => qO f fns, fi := fi } where
 ti := fun t i h => qNt (List.all_eq_true.1 h1 (t, i) (yC h))
 fs := fun f fn h => h2 (f, fn) (yC h)
theorem fns_ok {P : Program} {ti : TypeId -> Option TI} {fns : List (Nat × Func)} {fi : FuncId -> Fi} (h : (fns.all fun x => fnB (fi x.1) x.2) = true) : qGx P { ti := ti, fs := fun f => qO f fns, fi := fi } where
 name := fun f fn hf => by
  have := List.all_eq_true.1 h (f, fn) (yC hf)
  unfold fnB at this
  simp only [Bool.and_eq_true, Bool.not_eq_true'] at this
  exact this.1
 ids := fun f fn c hf hc => by
  have := List.all_eq_true.1 h (f, fn) (yC hf)
  unfold fnB at this
  simp only [hc, Bool.and_eq_true] at this
  exact qCN this.2.1
 cuts := fun f fn c hf hc => by
  have := List.all_eq_true.1 h (f, fn) (yC hf)
  unfold fnB at this
  simp only [hc, Bool.and_eq_true] at this
  exact qCN this.2.2
def noX : jG := fun _ _ _ => False
theorem noX_ok (P : Program) (C : Ctx) : qB6 P C noX := fun f args K h => h.elim
theorem noX_mono : jG.Mono noX := fun f a K K' _ h => h
inductive T0 where
 | undef | int (k : IntKind) | bool | str
 | emp (e : TypeId) (t : Ty) | dat (e : TypeId) (t : Ty)
 | own (d : Nat) | vw (d : Nat) | nref (d off : Nat)
 | pbox (b off : Nat) | pelt (d off : Nat) | pn (d off off2 : Nat)
 | pdat (e : TypeId) (t : Ty) (off : Nat)
 | row (e : TypeId) (t : Ty) (m : Nat)
abbrev T0.V : T0 -> Type
 | .int _ => Int | .bool => Bool | .str => List UInt8
 | .dat _ t => List t.T
 | .vw _ => Nat × Nat | .nref _ _ => Nat | .pelt _ _ => Nat | .pn _ _ _ => Nat × Nat
 | .pdat _ t _ => t.T
 | .row _ t _ => List t.T
 | .undef => Unit | .emp _ _ => Unit | .own _ => Unit | .pbox _ _ => Unit
def T0.fill : (T : T0) -> T.V -> CV
 | .undef, _ => .undef | .int k, n => .int k n | .bool, b => .bool b | .str, s => .str s
 | .emp e t, _ => .emp e t | .dat e t, l => .dat e t l
 | .own d, _ => .own d | .vw d, p => .vw d p.1 p.2 | .nref d off, i => .nref d i off
 | .pbox b off, _ => .pbox b off | .pelt d off, i => .pelt d i off | .pn d off off2, p => .pn d p.1 off p.2 off2
 | .pdat e t off, x => .pdat e t x off
 | .row e t m, l => .row { e := e, t := t, l := l, m := m }
def T0.fit : (T : T0) -> CV -> Option T.V
 | .undef, .undef => some ()
 | .int k, .int k' n => if k' = k then some n else none
 | .bool, .bool b => some b
 | .str, .str s => some s
 | .emp e t, .emp e' t' => if e' = e /\ t' = t then some () else none
 | .dat e t, .dat e' t' l => if e' = e then (if h : t' = t then some (qAl (t := .sl e t') (u := .sl e t) (by rw [h]) l) else none) else none
 | .own d, .own d' => if d' = d then some () else none
 | .vw d, .vw d' a b => if d' = d then some (a, b) else none
 | .nref d off, .nref d' i off' => if d' = d /\ off' = off then some i else none
 | .pbox b off, .pbox b' off' => if b' = b /\ off' = off then some () else none
 | .pelt d off, .pelt d' i off' => if d' = d /\ off' = off then some i else none
 | .pn d off off2, .pn d' i off' j off2' => if d' = d /\ off' = off /\ off2' = off2 then some (i, j) else none
 | .pdat e t off, .pdat e' t' x off' => if e' = e /\ off' = off then (if h : t' = t then some (qAl h x) else none) else none
 | .row e t m, .row r => if r.e = e /\ r.m = m /\ r.hole = none then (if h : r.t = t then some (qAl (t := .sl e r.t) (u := .sl e t) (by rw [h]) r.l) else none) else none
 | _, _ => none
theorem T0.fit_fill : ∀ {T : T0} {c : CV} {v : T.V}, T.fit c = some v -> c = T.fill v := by
 intro T c v h
 cases T <;> cases c <;> simp only [T0.fit] at h <;> try (cases h; done)
 case undef.undef => rfl
 case int.int k k' n =>
  split at h
  ·rename_i hk; subst hk; cases h; rfl
  ·cases h
 case bool.bool => cases h; rfl
 case str.str => cases h; rfl
 case emp.emp =>
  split at h
  ·rename_i hk; obtain ⟨rfl, rfl⟩ := hk; rfl
  ·cases h
 case dat.dat =>
  split at h
  ·rename_i hk; subst hk
   split at h
   ·rename_i hk; subst hk; cases h; rfl
   ·cases h
  ·cases h
 case own.own =>
  split at h
  ·rename_i hk; subst hk; rfl
  ·cases h
 case vw.vw =>
  split at h
  ·rename_i hk; subst hk; cases h; rfl
  ·cases h
 case nref.nref =>
  split at h
  ·rename_i hk; obtain ⟨rfl, rfl⟩ := hk; cases h; rfl
  ·cases h
 case pbox.pbox =>
  split at h
  ·rename_i hk; obtain ⟨rfl, rfl⟩ := hk; rfl
  ·cases h
 case pelt.pelt =>
  split at h
  ·rename_i hk; obtain ⟨rfl, rfl⟩ := hk; cases h; rfl
  ·cases h
 case pn.pn =>
  split at h
  ·rename_i hk; obtain ⟨rfl, rfl, rfl⟩ := hk; cases h; rfl
  ·cases h
 case pdat.pdat =>
  split at h
  ·rename_i hk; obtain ⟨rfl, rfl⟩ := hk
   split at h
   ·rename_i hk; subst hk; cases h; rfl
   ·cases h
  ·cases h
 case row.row e t m r =>
  obtain ⟨e', t', l, m', hole⟩ := r
  split at h
  ·rename_i hk
   obtain ⟨h1, h2, h3⟩ := hk
   simp only at h1 h2 h3
   subst h1; subst h2; subst h3
   split at h
   ·rename_i hk; simp only at hk; subst hk; cases h; rfl
   ·cases h
  ·cases h
abbrev V0s : List T0 -> Type
 | [] => Unit
 | t :: r => t.V × V0s r
def qKg : (l : List T0) -> V0s l -> List CV
 | [], _ => []
 | t :: r, v => t.fill v.1 :: qKg r v.2
def qMZ : (l : List T0) -> List CV -> Option (V0s l)
 | [], [] => some ()
 | t :: r, c :: cs => match t.fit c with
  | some v => match qMZ r cs with
   | some vs => some (v, vs)
   | none => none
  | none => none
 | _, _ => none
theorem qCZ : ∀ {l : List T0} {cs : List CV} {v : V0s l}, qMZ l cs = some v -> cs = qKg l v
 | [], [], v, h => rfl
 | [], _ :: _, v, h => by simp [qMZ] at h
 | _ :: _, [], v, h => by simp [qMZ] at h
 | t :: r, c :: cs, v, h => by
  simp only [qMZ] at h
  split at h
  ·rename_i x hx
   split at h
   ·rename_i y hy
    cases h
    rw [qKg, <- T0.fit_fill hx, <- qCZ hy]
   ·cases h
  ·cases h
inductive T1 where
 | o (t : T0)
 | fn (f : FuncId) (sh : List (Bool × Nat)) (n : Nat) (cs : List T0)
 | boxr (e : TypeId) (cs : List T0)
abbrev T1.V : T1 -> Type
 | .o t => t.V
 | .fn _ _ _ cs => V0s cs
 | .boxr _ cs => V0s cs
def T1.fill : (T : T1) -> T.V -> CV
 | .o t, v => t.fill v
 | .fn f sh n cs, v => .fn f sh n (qKg cs v)
 | .boxr e cs, v => .boxr e (qKg cs v)
def T1.fit : (T : T1) -> CV -> Option T.V
 | .o t, c => t.fit c
 | .fn f sh n cs, c => match c with
  | .fn f' sh' n' cs' => if f' = f /\ sh' = sh /\ n' = n then qMZ cs cs' else none
  | _ => none
 | .boxr e cs, c => match c with
  | .boxr e' cs' => if e' = e then qMZ cs cs' else none
  | _ => none
theorem T1.fit_fill : ∀ {T : T1} {c : CV} {v : T.V}, T.fit c = some v -> c = T.fill v
 | .o t, c, v, h => T0.fit_fill h
 | .fn f sh n cs, c, v, h => by
  simp only [T1.fit] at h
  split at h
  ·split at h
   ·rename_i hk
    obtain ⟨rfl, rfl, rfl⟩ := hk
    rw [qCZ h]; rfl
   ·cases h
  ·cases h
 | .boxr e cs, c, v, h => by
  simp only [T1.fit] at h
  split at h
  ·split at h
   ·rename_i hk
    subst hk
    rw [qCZ h]; rfl
   ·cases h
  ·cases h
abbrev V1s : List T1 -> Type
 | [] => Unit
 | t :: r => t.V × V1s r
def qIP : (l : List T1) -> V1s l -> List CV
 | [], _ => []
 | t :: r, v => t.fill v.1 :: qIP r v.2
def qMl : (l : List T1) -> List CV -> Option (V1s l)
 | [], [] => some ()
 | t :: r, c :: cs => match t.fit c with
  | some v => match qMl r cs with
   | some vs => some (v, vs)
   | none => none
  | none => none
 | _, _ => none
theorem qA6 : ∀ {l : List T1} {cs : List CV} {v : V1s l}, qMl l cs = some v -> cs = qIP l v
 | [], [], v, h => rfl
 | [], _ :: _, v, h => by simp [qMl] at h
 | _ :: _, [], v, h => by simp [qMl] at h
 | t :: r, c :: cs, v, h => by
  simp only [qMl] at h
  split at h
  ·rename_i x hx
   split at h
   ·rename_i y hy
    cases h
    rw [qIP, <- T1.fit_fill hx, <- qA6 hy]
   ·cases h
  ·cases h
inductive TS where
 | u
 | c (t : T1)
 | a (ts : List T1)
 | k (f : FuncId) (n : Nat) (ts : List T1)
abbrev TS.V : TS -> Type
 | .u => Unit
 | .c t => t.V
 | .a ts => V1s ts
 | .k _ _ ts => V1s ts
def TS.fill : (T : TS) -> T.V -> SV
 | .u, _ => .undef
 | .c t, v => .c (t.fill v)
 | .a ts, v => .agg (qIP ts v)
 | .k f n ts, v => .clo f n (qIP ts v)
def TS.fit : (T : TS) -> SV -> Option T.V
 | .u, x => match x with
  | .undef => some ()
  | _ => none
 | .c t, x => match x with
  | .c y => t.fit y
  | _ => none
 | .a ts, x => match x with
  | .agg ys => qMl ts ys
  | _ => none
 | .k f n ts, x => match x with
  | .clo f' n' ys => if f' = f /\ n' = n then qMl ts ys else none
  | _ => none
theorem TS.fit_fill : ∀ {T : TS} {x : SV} {v : T.V}, T.fit x = some v -> x = T.fill v
 | .u, x, v, h => by
  simp only [TS.fit] at h
  split at h
  ·rfl
  ·cases h
 | .c t, x, v, h => by
  simp only [TS.fit] at h
  split at h
  ·rw [T1.fit_fill h]; rfl
  ·cases h
 | .a ts, x, v, h => by
  simp only [TS.fit] at h
  split at h
  ·rw [qA6 h]; rfl
  ·cases h
 | .k f n ts, x, v, h => by
  simp only [TS.fit] at h
  split at h
  ·split at h
   ·rename_i hk
    obtain ⟨rfl, rfl⟩ := hk
    rw [qA6 h]; rfl
   ·cases h
  ·cases h
abbrev VA : List TS -> Type
 | [] => Unit
 | t :: r => t.V × VA r
def qBy : (l : List TS) -> VA l -> List SV
 | [], _ => []
 | t :: r, v => t.fill v.1 :: qBy r v.2
def qNn : (l : List TS) -> List SV -> Option (VA l)
 | [], [] => some ()
 | t :: r, c :: cs => match t.fit c with
  | some v => match qNn r cs with
   | some vs => some (v, vs)
   | none => none
  | none => none
 | _, _ => none
theorem qF4 : ∀ {l : List TS} {cs : List SV} {v : VA l}, qNn l cs = some v -> cs = qBy l v
 | [], [], v, h => rfl
 | [], _ :: _, v, h => by simp [qNn] at h
 | _ :: _, [], v, h => by simp [qNn] at h
 | t :: r, c :: cs, v, h => by
  simp only [qNn] at h
  split at h
  ·rename_i x hx
   split at h
   ·rename_i y hy
    cases h
    rw [qBy, <- TS.fit_fill hx, <- qF4 hy]
   ·cases h
  ·cases h
abbrev VS : List (Nat × TS) -> Type
 | [] => Unit
 | t :: r => t.2.V × VS r
def qLI : (l : List (Nat × TS)) -> VS l -> List (Nat × SV)
 | [], _ => []
 | t :: r, v => (t.1, t.2.fill v.1) :: qLI r v.2
def qNk : (l : List (Nat × TS)) -> List (Nat × SV) -> Option (VS l)
 | [], [] => some ()
 | t :: r, c :: cs => if c.1 = t.1 then (match t.2.fit c.2 with
  | some v => match qNk r cs with
   | some vs => some (v, vs)
   | none => none
  | none => none) else none
 | _, _ => none
theorem qF1 : ∀ {l : List (Nat × TS)} {cs : List (Nat × SV)} {v : VS l}, qNk l cs = some v -> cs = qLI l v
 | [], [], v, h => rfl
 | [], _ :: _, v, h => by simp [qNk] at h
 | _ :: _, [], v, h => by simp [qNk] at h
 | t :: r, c :: cs, v, h => by
  simp only [qNk] at h
  split at h
  ·rename_i hk
   split at h
   ·rename_i x hx
    split at h
    ·rename_i y hy
     cases h
     rw [qLI, <- TS.fit_fill hx, <- qF1 hy, <- hk]
    ·cases h
   ·cases h
  ·cases h
structure RT where
 d : Nat
 e : TypeId
 t : Ty
 m : Nat
abbrev VR : List RT -> Type
 | [] => Unit
 | t :: r => List t.t.T × VR r
def qLJ : (l : List RT) -> VR l -> List (Nat × Row)
 | [], _ => []
 | t :: r, v => (t.d, { e := t.e, t := t.t, l := v.1, m := t.m }) :: qLJ r v.2
def qNl : (l : List RT) -> List (Nat × Row) -> Option (VR l)
 | [], [] => some ()
 | t :: r, c :: cs => if c.1 = t.d /\ c.2.e = t.e /\ c.2.m = t.m /\ c.2.hole = none then (if h : c.2.t = t.t then (match qNl r cs with
   | some vs => some (qAl (t := .sl 0 c.2.t) (u := .sl 0 t.t) (by rw [h]) c.2.l, vs)
   | none => none) else none) else none
 | _, _ => none
theorem qF2 : ∀ {l : List RT} {cs : List (Nat × Row)} {v : VR l}, qNl l cs = some v -> cs = qLJ l v
 | [], [], v, h => rfl
 | [], _ :: _, v, h => by simp [qNl] at h
 | _ :: _, [], v, h => by simp [qNl] at h
 | ⟨d, e, t, m⟩ :: r, (d', ⟨e', t', l, m', hole⟩) :: cs, v, h => by
  simp only [qNl] at h
  split at h
  ·rename_i hk
   obtain ⟨rfl, rfl, rfl, rfl⟩ := hk
   split at h
   ·rename_i hk
    subst hk
    split at h
    ·rename_i y hy
     cases h
     rw [qLJ, <- qF2 hy]; rfl
    ·cases h
   ·cases h
  ·cases h
structure BT where
 b : Nat
 e : TypeId
 cs : List T1
 ro : Bool
 it : Bool
abbrev VB : List BT -> Type
 | [] => Unit
 | t :: r => V1s t.cs × VB r
def qLK : (l : List BT) -> VB l -> List (Nat × Box)
 | [], _ => []
 | t :: r, v => (t.b, { e := t.e, cs := qIP t.cs v.1, ro := t.ro, it := t.it }) :: qLK r v.2
def qNm : (l : List BT) -> List (Nat × Box) -> Option (VB l)
 | [], [] => some ()
 | t :: r, c :: cs => if c.1 = t.b /\ c.2.e = t.e /\ c.2.ro = t.ro /\ c.2.it = t.it then (match qMl t.cs c.2.cs with
   | some v => match qNm r cs with
    | some vs => some (v, vs)
    | none => none
   | none => none) else none
 | _, _ => none
theorem qF3 : ∀ {l : List BT} {cs : List (Nat × Box)} {v : VB l}, qNm l cs = some v -> cs = qLK l v
 | [], [], v, h => rfl
 | [], _ :: _, v, h => by simp [qNm] at h
 | _ :: _, [], v, h => by simp [qNm] at h
 | ⟨b, e, ts, ro, it⟩ :: r, (b', ⟨e', xs, ro', it'⟩) :: cs, v, h => by
  simp only [qNm] at h
  split at h
  ·rename_i hk
   obtain ⟨rfl, rfl, rfl, rfl⟩ := hk
   split at h
   ·rename_i x hx
    split at h
    ·rename_i y hy
     cases h
     rw [qLK, <- qF3 hy, <- qA6 hx]
    ·cases h
   ·cases h
  ·cases h
structure ST where
 s : List (Nat × TS)
 r : List RT
 b : List BT
 lR : List Nat
 lB : List Nat
abbrev ST.V (T : ST) : Type := VS T.s × VR T.r × VB T.b
def ST.fill (T : ST) (v : T.V) : St := ⟨qLI T.s v.1, qLJ T.r v.2.1, qLK T.b v.2.2, T.lR, T.lB⟩
def ST.fit (T : ST) (x : St) : Option T.V := match qNk T.s x.slots with
 | some a => match qNl T.r x.rows with
  | some b => match qNm T.b x.boxes with
   | some c => if x.lentR = T.lR /\ x.lentB = T.lB then some (a, b, c) else none
   | none => none
  | none => none
 | none => none
theorem ST.fit_fill {T : ST} {x : St} {v : T.V} (h : T.fit x = some v) : x = T.fill v := by
 obtain ⟨s, r, b, lR, lB⟩ := x
 simp only [ST.fit] at h
 split at h
 ·rename_i a ha
  split at h
  ·rename_i b hb
   split at h
   ·rename_i c hc
    split at h
    ·rename_i hk
     cases h
     rw [ST.fill, <- qF1 ha, <- qF2 hb, <- qF3 hc, <- hk.1, <- hk.2]
    ·cases h
   ·cases h
  ·cases h
 ·cases h
def orC (f : FuncId) (A : List TS) (u : VA A -> (RES -> Prop) -> Prop) (d : jG) : jG := fun g a K =>
 if g = f then (match qNn A a with
  | some v => u v K
  | none => d g a K) else d g a K
def noC : jG := fun _ _ _ => False
def orL (k : Nat) (T : ST) (u : T.V -> (X -> St -> Prop) -> Prop) (d : kY) : kY := fun j st K =>
 if j = k then (match T.fit st with
  | some v => u v K
  | none => d j st K) else d j st K
def noL : kY := fun _ _ _ => False
def qMk (T : ST) (u : T.V -> Prop) : St -> Prop := fun st => match T.fit st with
 | some v => u v
 | none => False
section
variable {C : Ctx} {X0 : jG} {n : Nat}
theorem qNC : ∀ g a K, noC g a K -> callM C X0 n g a K := fun _ _ _ h => h.elim
theorem qBS {f : FuncId} : ∀ k st K, noL k st K -> kH C X0 n f k st K := fun _ _ _ h => h.elim
theorem qBR {f : FuncId} {A : List TS} {u : VA A -> (RES -> Prop) -> Prop} {d : jG} (h : ∀ v K, u v K -> callM C X0 n f (qBy A v) K) (hd : ∀ g a K, d g a K -> callM C X0 n g a K) :
  ∀ g a K, orC f A u d g a K -> callM C X0 n g a K := by
 intro g a K hh
 unfold orC at hh
 split at hh
 ·rename_i hg
  subst hg
  split at hh
  ·rename_i v hv
   rw [qF4 hv]; exact h v K hh
  ·exact hd _ _ _ hh
 ·exact hd _ _ _ hh
theorem qFF {f : FuncId} {k : Nat} {T : ST} {u : T.V -> (X -> St -> Prop) -> Prop} {d : kY} (h : ∀ v K, u v K -> kH C X0 n f k (T.fill v) K) (hd : ∀ j st K, d j st K -> kH C X0 n f j st K) :
  ∀ j st K, orL k T u d j st K -> kH C X0 n f j st K := by
 intro j st K hh
 unfold orL at hh
 split at hh
 ·rename_i hg
  subst hg
  split at hh
  ·rename_i v hv
   rw [ST.fit_fill hv]; exact h v K hh
  ·exact hd _ _ _ hh
 ·exact hd _ _ _ hh
theorem qCY {f : FuncId} {k : Nat} {T : ST} {u : T.V -> Prop} {K : X -> St -> Prop} (h : ∀ v, u v -> kH C X0 n f k (T.fill v) K) : ∀ s, qMk T u s -> kH C X0 n f k s K := by
 intro s hs
 unfold qMk at hs
 split at hs
 ·rename_i v hv
  rw [ST.fit_fill hv]; exact h v hs
 ·exact hs.elim
end
section
variable {C : Ctx} {X0 : jG} (hX : jG.Mono X0)
include hX
theorem qKy {f : FuncId} {fn : Func} {c : Code} (hf : C.fs f = some fn) (hb : fn.body = some c) {A : List TS} {u : Nat -> VA A -> (RES -> Prop) -> Prop} (h0 : ∀ v K, ¬ u 0 v K)
  {call : Nat -> jG} {lp : Nat -> kY} (hc : ∀ n g a K, call n g a K -> callM C X0 n g a K) (hl : ∀ n k st K, lp n k st K -> kH C X0 n f k st K)
  (he : ∀ n v K, u (n + 1) v K = evC C (call n) fn.ntmps (C.fi f) (lp n) c (enter (C.fi f).modes (qBy A v)) (qCc C fn (C.fi f) (qBy A v) K)) :
  ∀ n v K, u n v K -> callM C X0 n f (qBy A v) K
 | 0, v, K, h => (h0 v K h).elim
 | n + 1, v, K, h => qEM hX hf hb (hc n) (hl n) (he n v K) h
theorem qFQ {f : FuncId} {k : Nat} {fn : Func} {c a : Code} {li : Li} (hf : C.fs f = some fn) (hb : fn.body = some c) (hk : k < 1000000) (ha : qS k c = some a) (hli : qO k (C.fi f).loops = some li)
  {T : ST} {u : Nat -> T.V -> (X -> St -> Prop) -> Prop} (h0 : ∀ v K, ¬ u 0 v K) {call : Nat -> jG} {lp : Nat -> kY}
  (hc : ∀ n g a K, call n g a K -> callM C X0 n g a K) (hl : ∀ n k st K, lp n k st K -> kH C X0 n f k st K)
  (he : ∀ n v K, u (n + 1) v K = evC C (call n) fn.ntmps (C.fi f) (lp n) a (T.fill v) (qBQ li (qMk T fun v' => u n v' K) K)) :
  ∀ n v K, u n v K -> kH C X0 n f k (T.fill v) K
 | 0, v, K, h => (h0 v K h).elim
 | n + 1, v, K, h => qCQ hX hf hb hk ha hli (hc n) (hl n) (qCY fun v' h' => qFQ hf hb hk ha hli h0 hc hl he n v' K h') (he n v K) h
theorem qLN {f : FuncId} {k : Nat} {fn : Func} {c a : Code} {li : Li} (hf : C.fs f = some fn) (hb : fn.body = some c) (hk : 1000000 <= k) (ha : jB (k - 1000000) c = some a) (hli : qO k (C.fi f).loops = some li)
  {T : ST} {u : Nat -> T.V -> (X -> St -> Prop) -> Prop} (h0 : ∀ v K, ¬ u 0 v K) {call : Nat -> jG} {lp : Nat -> kY}
  (hc : ∀ n g a K, call n g a K -> callM C X0 n g a K) (hl : ∀ n k st K, lp n k st K -> kH C X0 n f k st K)
  (he : ∀ n v K, u (n + 1) v K = evC C (call n) fn.ntmps (C.fi f) (lp n) a (T.fill v) (qMq li K)) :
  ∀ n v K, u n v K -> kH C X0 n f k (T.fill v) K
 | 0, v, K, h => (h0 v K h).elim
 | n + 1, v, K, h => qNH hX hf hb hk ha hli (hc n) (hl n) (he n v K) h
end
end Go.Vsi
end
