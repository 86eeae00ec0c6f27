/- A machine on plain data for the code of the program, and what it means in memory. No statement is proved here. -/
import Derived.Test.YtaeadfaldglniaaGreatDoorM1
import Derived.Laws.Strings2
import Derived.Deep.AppendSrc
import Derived.Laws.RangeString
import Derived.Deep.Upon
set_option linter.unusedVariables false
set_option linter.unusedSimpArgs false

section
namespace Go.Vsi
section
variable {φ : Fix} {ρ : Env} {st : St} {a : Act} {w : World} {P : Program} {C : Ctx}
theorem xU {k : IntKind} {n : Int} {y : Nat} {c : BoundsCode} (h0 : 0 <= n) (h1 : n.toNat <= y) : (Instr.sliceBound (.int k n) y c).run P w = .ok n.toNat w := by
 have : n <= (y : Int) := by omega
 simp [Instr.sliceBound, asIntOf, h0, this]
def Bd (lo : Option Value) (l dflt : Nat) : Prop := (lo = none /\ l = dflt) \/ ∃ k n, lo = some (.int k n) /\ 0 <= n /\ n.toNat = l
theorem qDv {b : Bool} {len cap : Nat} {lo hi : Option Value} {l h : Nat} (hlo : Bd lo l 0) (hhi : Bd hi h len) (h1 : l <= h) (h2 : h <= cap) :
  (Instr.sliceBounds b len cap lo hi none).run P w = .ok (l, h, cap) w := by
 rcases hlo with ⟨rfl, rfl⟩ | ⟨k, n, rfl, g1, rfl⟩ <;> rcases hhi with ⟨rfl, rfl⟩ | ⟨k', n', rfl, g2, rfl⟩ <;>
  simp only [Instr.sliceBounds, Sem.run_bind, Sem.run_pure, Result.andThen_ok]
 ·rw [xU g2 h2]; rfl
 ·rw [xU g1 h1]; rfl
 ·rw [xU g2 h2]
  simp only [Result.andThen_ok]
  rw [xU g1 h1]; rfl
theorem yB {t e : TypeId} {sz : Nat} (hu : P.underlying t = some (.slice e)) (hs : (sizeOf e).run P w = .ok sz w) {x : Option Addr} {len cap : Nat} {lo hi : Option Value} {l h : Nat}
  (hlo : Bd lo l 0) (hhi : Bd hi h len) (h1 : l <= h) (h2 : h <= cap) :
  (Instr.sliceAt t (.slice x len cap) lo hi none).run P w = .ok (.slice (if cap = l then x else x.map (·.add (l * sz))) (h - l) (cap - l)) w := by
 unfold Instr.sliceAt
 rw [Sem.run_bind, run_underlying hu, Result.andThen_ok]
 unfold Instr.slice
 rw [Sem.run_bind, run_underlying hu, Result.andThen_ok]
 simp only [Sem.run_bind, qDv hlo hhi h1 h2, Result.andThen_ok, hs, Sem.run_pure]
theorem qD6 {t : TypeId} (hu : P.underlying t = some .string) {s : List UInt8} {lo hi : Option Value} {l h : Nat} (hlo : Bd lo l 0) (hhi : Bd hi h s.length) (h1 : l <= h) (h2 : h <= s.length) :
  (Instr.sliceAt t (.string ⟨⟨s⟩⟩) lo hi none).run P w = .ok (.string ⟨⟨(s.take h).drop l⟩⟩) w := by
 unfold Instr.sliceAt
 rw [Sem.run_bind, run_underlying hu, Result.andThen_ok]
 unfold Instr.slice
 rw [Sem.run_bind, run_underlying hu, Result.andThen_ok]
 have hsz : (ByteArray.mk ⟨s⟩).size = s.length := rfl
 simp only [Option.isSome_none, Bool.false_eq_true, if_false, Sem.run_bind, Sem.run_pure, hsz, qDv hlo hhi h1 h2, Result.andThen_ok]
 have e : (ByteArray.mk ⟨s⟩).extract l h = ⟨⟨(s.take h).drop l⟩⟩ := by rw [List.drop_take]; exact ByteArray.extract_mk s l h
 rw [e]
theorem qD7 {t e : TypeId} {sz : Nat} (hu : P.underlying t = some (.slice e)) (hs : (sizeOf e).run P w = .ok sz w) {x : Option Addr} {len cap : Nat} {lo : Option Value} {k k' : IntKind}
  (hlo : lo = none \/ ∃ k'', lo = some (.int k'' 0)) :
  (Instr.sliceAt t (.slice x len cap) lo (some (.int k 0)) (some (.int k' 0))).run P w = .ok (.slice x 0 0) w := by
 unfold Instr.sliceAt
 rw [Sem.run_bind, run_underlying hu, Result.andThen_ok]
 unfold Instr.slice
 rw [Sem.run_bind, run_underlying hu, Result.andThen_ok]
 have hb : ∀ {k : IntKind} {y : Nat} {c : BoundsCode}, (Instr.sliceBound (.int k 0) y c).run P w = .ok 0 w := fun {k y c} => xU (n := 0) (by omega) (by simp)
 have : (Instr.sliceBounds true len cap lo (some (.int k 0)) (some (.int k' 0))).run P w = .ok (0, 0, 0) w := by
  rcases hlo with rfl | ⟨k'', rfl⟩ <;> simp only [Instr.sliceBounds, Sem.run_bind, Sem.run_pure, Result.andThen_ok, hb]
 simp only [Sem.run_bind, this, Result.andThen_ok, hs, Sem.run_pure]
 simp
theorem qNE (h : Rep φ ρ st a w) {x : Option Operand} {n : Option Int} {d : Nat} (hv : xN st x = some n) (h0 : ∀ m, n = some m -> 0 <= m) : Bd (x.map a.eval) (match n with | none => d | some m => m.toNat) d := by
 rcases kQ h hv with ⟨rfl, rfl⟩ | ⟨y, k, m, rfl, rfl, e⟩
 ·exact .inl ⟨rfl, rfl⟩
 ·exact .inr ⟨k, m, by rw [Option.map_some, e], h0 m rfl, rfl⟩
theorem qNY (h : Rep φ ρ st a w) {lo hi : Option Operand} {l' h' : Option Int} {len : Nat} (el : xN st lo = some l') (eh : xN st hi = some h') (hh : qLp l' h' len = true) :
  Bd (lo.map a.eval) (l'.getD 0).toNat 0 /\ Bd (hi.map a.eval) (h'.getD (len : Int)).toNat len /\ (l'.getD 0).toNat <= (h'.getD (len : Int)).toNat /\ (h'.getD (len : Int)).toNat <= len := by
 simp only [qLp, Bool.and_eq_true, decide_eq_true_eq] at hh
 obtain ⟨⟨g1, g2⟩, g3⟩ := hh
 have b1 := qNE h (d := 0) el (fun m hm => by subst hm; simpa using g1)
 have b2 := qNE h (d := len) eh (fun m hm => by subst hm; simp at g2; exact g2.1)
 refine ⟨?_, ?_, by omega, ?_⟩
 ·cases l' <;> exact b1
 ·cases h' with
  | none => simpa using b2
  | some m => exact b2
 ·cases h' with
  | none => simp
  | some m => simp at g2 ⊢; omega
theorem qE5 (hC : jK P C) (h : Rep φ ρ st a w) {t : TypeId} {x r : CV} {lo hi mx : Option Operand} {l' h' m' : Option Int} {u : Value} (hx : CVR ρ w x u) (hk : qKQ C st t x = true)
  (el : xN st lo = some l') (eh : xN st hi = some h') (em : xN st mx = some m') (hv : qI5 st x l' h' m' = some (true, r)) :
  ∃ z, (Instr.sliceAt t u (lo.map a.eval) (hi.map a.eval) (mx.map a.eval)).run P w = .ok z w /\ zQ ρ w r z := by
 have val : (∀ s, x ≠ .str s) -> ∃ b n c, u = .slice b n c := by
  intro hn
  obtain ⟨e, j, s, _, _, hr, _⟩ := xS hC hn hk
  have h0 : zQ ρ w x u := qBO (by rintro f sh n cs rfl; simp [xL] at hr) hx
  obtain ⟨b, c, e1, _⟩ := wW h hr h0
  exact ⟨b, _, c, e1⟩
 unfold qI5 at hv
 simp only at hv
 cases hm : m' with
 | some m =>
  simp only [hm] at hv
  have nil : (∀ s, x ≠ .str s) -> (∃ e t', r = .emp e t') -> h' = some 0 -> m = 0 -> (l' = none \/ l' = some 0) -> ∃ z, (Instr.sliceAt t u (lo.map a.eval) (hi.map a.eval) (mx.map a.eval)).run P w = .ok z w /\ zQ ρ w r z := by
   rintro hn ⟨e, t', rfl⟩ e1 e2 e3
   obtain ⟨e0, j, s, hu, hs, hr, hj⟩ := xS hC hn hk
   obtain ⟨b, n, c, rfl⟩ := val hn
   subst e1; subst e2; subst hm
   rcases kQ h eh with ⟨_, q⟩ | ⟨yh, kh, mh, rfl, q, eh'⟩
   ·cases q
   ·simp only [Option.some.injEq] at q; subst q
    rcases kQ h em with ⟨_, q⟩ | ⟨ym, km, mm, rfl, q, em'⟩
    ·cases q
    ·simp only [Option.some.injEq] at q; subst q
     refine ⟨.slice b 0 0, ?_, b, rfl⟩
     rw [Option.map_some, Option.map_some, eh', em']
     refine qD7 hu (hs w) ?_
     rcases kQ h el with ⟨rfl, _⟩ | ⟨yl, kl, ml, rfl, q, el'⟩
     ·exact .inl rfl
     ·rcases e3 with e3 | e3
      ·rw [e3] at q; cases q
      ·rw [e3] at q; simp only [Option.some.injEq] at q; subst q
       exact .inr ⟨kl, by rw [Option.map_some, el']⟩
  have ns : ∀ {e : TypeId} {t' : Ty}, x.slTy st = some (e, t') -> ∀ s, x ≠ .str s := by
   rintro e t' hh s rfl; simp [CV.slTy, xL] at hh
  split at hv
  ·split at hv
   ·rename_i h1
    split at hv
    ·rename_i e t' hh
     simp only [Option.some.injEq, Prod.mk.injEq, true_and] at hv
     exact nil (ns hh) ⟨e, t', hv.symm⟩ (by rw [h1.2]) h1.1 (.inl rfl)
    ·cases hv
   ·cases hv
  ·split at hv
   ·rename_i h1
    split at hv
    ·rename_i e t' hh
     simp only [Option.some.injEq, Prod.mk.injEq, true_and] at hv
     exact nil (ns hh) ⟨e, t', hv.symm⟩ (by rw [h1.2.1]) h1.1 (.inr (by rw [h1.2.2]))
    ·cases hv
   ·cases hv
  ·cases hv
 | none =>
  simp only [hm] at hv
  have emx : mx = none := by
   rcases kQ h em with ⟨rfl, _⟩ | ⟨y, k, m, _, q, _⟩
   ·rfl
   ·rw [hm] at q; cases q
  subst emx
  have bd : ∀ {len : Nat}, qLp l' h' len = true ->
    Bd (lo.map a.eval) (l'.getD 0).toNat 0 /\ Bd (hi.map a.eval) (h'.getD (len : Int)).toNat len /\ (l'.getD 0).toNat <= (h'.getD (len : Int)).toNat /\ (h'.getD (len : Int)).toNat <= len := fun {len} hh => qNY h el eh hh
  cases x with
  | str s =>
   simp only [Option.some.injEq, Prod.mk.injEq] at hv
   obtain ⟨g, rfl⟩ := hv
   obtain ⟨b1, b2, b3, b4⟩ := bd g
   rw [show u = .string ⟨⟨s⟩⟩ from hx]
   exact ⟨_, qD6 (qBb hC (by simpa [qKQ] using hk)) b1 b2 b3 b4, rfl⟩
  | dat e' t' s =>
   simp only [Option.some.injEq, Prod.mk.injEq] at hv
   obtain ⟨g, rfl⟩ := hv
   obtain ⟨b1, b2, b3, b4⟩ := bd g
   obtain ⟨e, j, s', hu, hs, hr, hj⟩ := xS hC (by intro s; exact CV.noConfusion) hk
   simp only [xL, Option.some.injEq] at hr; subst hr
   have hx' : qDd ρ.F w t' s u := hx
   obtain ⟨b, c, rfl, hc, _⟩ := id hx'
   refine ⟨_, yB hu (hs w) b1 b2 b3 (by omega), ?_⟩
   exact qDc hx' b3 b4 (fun hlt => by rw [if_neg (by omega), hj])
  | own d =>
   simp only at hv
   split at hv
   ·rename_i r' hrow
    have hd := qM hrow
    obtain ⟨e, j, s', hu, hs, hr, hj⟩ := xS hC (by intro s; exact CV.noConfusion) hk
    simp only [xL, hrow, Option.some.injEq] at hr; subst hr
    obtain ⟨b, c, e1, hc, e2⟩ := h.rowVal hd (qCf hrow)
    have hu' : u = .slice b r'.l.length c := hx.1.trans e1
    split at hv
    ·simp only [Option.some.injEq, Prod.mk.injEq, true_and] at hv
     subst hv
     have h1 : lo = none := by
      rcases kQ h el with ⟨rfl, _⟩ | ⟨_, _, _, _, q, _⟩
      ·rfl
      ·cases q
     have h2 : hi = none := by
      rcases kQ h eh with ⟨rfl, _⟩ | ⟨_, _, _, _, q, _⟩
      ·rfl
      ·cases q
     subst h1; subst h2
     refine ⟨u, ?_, hx⟩
     rw [hu']
     rw [show (Option.map a.eval none) = (none : Option Value) from rfl, yB hu (hs w) (.inl ⟨rfl, rfl⟩) (.inl ⟨rfl, rfl⟩) (Nat.zero_le _) hc]
     congr 2
     ·split
      ·rfl
      ·cases b with
       | none => rfl
       | some b => simp [Addr.add]
    ·simp only [Option.some.injEq, Prod.mk.injEq] at hv
     obtain ⟨g, rfl⟩ := hv
     obtain ⟨b1, b2, b3, b4⟩ := bd g
     rw [hu']
     refine ⟨_, yB hu (hs w) b1 b2 b3 (by omega), b, r'.l.length, c, _, e1, b3, b4, hc, rfl, fun hlt => ?_⟩
     rw [if_neg (by omega), hj, (h.rows d r' hd).2.1]
   ·cases hv
  | vw d p q =>
   simp only at hv
   split at hv
   ·rename_i r' hrow
    have hd := qM hrow
    obtain ⟨e, j, s', hu, hs, hr, hj⟩ := xS hC (by intro s; exact CV.noConfusion) hk
    simp only [xL, hrow, Option.some.injEq] at hr; subst hr
    simp only [Option.some.injEq, Prod.mk.injEq] at hv
    obtain ⟨g, rfl⟩ := hv
    rw [Bool.and_eq_true, Bool.and_eq_true] at g
    obtain ⟨⟨g, g1⟩, g2⟩ := g
    obtain ⟨b1, b2, b3, b4⟩ := bd g
    obtain ⟨b, n, c, b', e1, k1, k2, k3, rfl, k4⟩ := (hx : zQ ρ w (.vw d p q) u)
    have rr := yB (x := b') (cap := c - p) hu (hs w) b1 b2 b3 (by omega)
    refine ⟨_, rr, b, n, c, _, e1, by omega, by omega, k3, (by
     congr 1
     ·omega
     ·omega), fun hlt => ?_⟩
    ·rw [if_neg (by omega), k4 (by omega), hj, (h.rows d r' hd).2.1]
     cases b with
     | none => rfl
     | some b =>
      obtain ⟨bb, bo, bs⟩ := b
      simp only [Option.map_some, Addr.add, Nat.add_mul]
      by_cases hz : p * r'.t.sz = 0 <;> by_cases hz' : (l'.getD 0).toNat * r'.t.sz = 0 <;> simp [hz, hz', Nat.add_assoc]
   ·cases hv
  | _ => simp at hv
end
section
variable {φ : Fix} {ρ : Env} {st : St} {a : Act} {w : World} {P : Program} {C : Ctx}
def qEG (P : Program) (ρ : Env) (w : World) (s : Sem Value) (v : SV) : Prop := ∃ x, s.run P w = .ok x w /\ SVR ρ w v x
theorem qEG.did {o : Oper} {s : Sem Value} {v : SV} (h : Rep φ ρ st a w) (hs : qEG P ρ w s v) (he : execOp a.eval o = (do pure (.value (<- s)))) : Did P φ o a w st v := by
 obtain ⟨x, h1, h2⟩ := hs
 exact Did.of_ans he (Ans.pure h h1 h2)
theorem qEG.of0 {s : Sem Value} {c : CV} (h : ∃ z, s.run P w = .ok z w /\ zQ ρ w c z) : qEG P ρ w s (.c c) := by
 obtain ⟨z, h1, h2⟩ := h
 exact ⟨z, h1, zL h2⟩
theorem qD2 {t : TypeId} {g : Bool} {n : Nat} (h : qCv C t = some (g, n)) : ∃ i, C.ti t = some i /\ i.isAgg = g /\ i.size = n := by
 unfold qCv at h
 cases hi : C.ti t with
 | none => simp [hi] at h
 | some i =>
  simp only [hi, Option.map_some, Option.some.injEq, Prod.mk.injEq] at h
  exact ⟨i, rfl, h.1, h.2⟩
theorem qCF (hC : jK P C) {t ft : TypeId} {i : TI} (hi : C.ti t = some i) {f off : Nat} (hf : i.fields[f]? = some (off, ft)) {g : Bool} {n : Nat} (hs : qCv C ft = some (g, n)) (hn : n ≠ 0) (b o : Nat) :
  (Instr.fieldAt t (.pointer (some ⟨b, o, none⟩)) f).run P w = .ok (.pointer (some ⟨b, o + off, none⟩)) w := by
 have T := hC.ti t i hi
 obtain ⟨j, hj, _, rfl⟩ := qD2 hs
 obtain ⟨fs, hu⟩ := T.strct (by intro hh; rw [hh] at hf; simp at hf)
 obtain ⟨_, hfs⟩ := T.flds fs hu
 obtain ⟨fd, h1, h2, h3, _⟩ := hfs f off ft hf
 have hsz := (hC.ti ft j hj).runSize w
 rw [<- h3] at hsz
 unfold Instr.fieldAt
 rw [Sem.run_bind, run_underlying hu, Result.andThen_ok]
 simp only [h1, Instr.sureAddr, Sem.run_bind, Sem.run_pure, Result.andThen_ok, fieldPlace, hsz, hn, if_false, vA, h2]
theorem qMC (hC : jK P C) {ft : TypeId} {cs : List CV} {v : SV} {arr : Array Value} {off n : Nat} {g : Bool} (hs : qCv C ft = some (g, n)) (hc : jC (CVR ρ w) cs arr.toList) (hv : mkV C ft (qEV off n cs) = some v) :
  qEG P ρ w (part ft arr off) v := by
 obtain ⟨j, hj, _, hn⟩ := qD2 hs
 have T := hC.ti ft j hj
 obtain ⟨i, hi, hlen, hh⟩ := qHm hC hv (yX hc off n)
 rw [hj] at hi
 simp only [Option.some.injEq] at hi
 subst hi
 unfold part qEG
 rcases hh with ⟨hagg, hs⟩ | ⟨hagg, x, hx, hs⟩
 ·refine ⟨_, ?_, hs⟩
  rw [Sem.run_bind, T.runAgg w, Result.andThen_ok]
  simp only [hagg, if_true, Sem.run_bind, T.runSize w, Result.andThen_ok, Sem.run_pure]
  congr 2
  apply Array.ext'
  simp [hn, List.extract_eq_take_drop]
 ·refine ⟨x, ?_, hs⟩
  rw [Sem.run_bind, T.runAgg w, Result.andThen_ok]
  simp only [hagg, Bool.false_eq_true, if_false]
  have h1 : arr[off]? = some x := by
   have : ((arr.toList.drop off).take n)[0]? = some x := by rw [hx]; rfl
   rw [List.getElem?_take] at this
   split at this
   ·simpa using this
   ·cases this
  rw [h1]
  rfl
theorem jC.nth {α β : Type} {R : α -> β -> Prop} {l : List α} {r : List β} (h : jC R l r) {i : Nat} {x : α} (hx : l[i]? = some x) : ∃ y, r[i]? = some y /\ R x y := h.get hx
theorem qIr {vs : List SV} {v : SV} {u : Value} {i : Nat} (hu : SVR ρ w (.tup vs) u) (hv : vs[i]? = some v) : qEG P ρ w (Instr.extract u i) v := by
 obtain ⟨arr, rfl, h⟩ := hu
 obtain ⟨x, h1, h2⟩ := h.nth hv
 have h1' : arr[i]? = some x := by simpa using h1
 refine ⟨x, by simp [Instr.extract, h1'], ?_⟩
 cases v with
 | tup _ => exact h2.elim
 | _ => exact h2
theorem qBv : ∀ {vs : List SV} {xs : List Value} {sh : List (Bool × Nat)} {cs : List CV}, yY vs = some (sh, cs) -> jC (SVR ρ w) vs xs ->
  (∀ c, c ∈ cs -> ∀ f sh n ds, c ≠ .fn f sh n ds) -> Shaped (zQ ρ w) sh cs xs /\ sh.length = vs.length
 | [], [], sh, cs, h, _, _ => by simp only [yY, Option.some.injEq, Prod.mk.injEq] at h; obtain ⟨rfl, rfl⟩ := h; exact ⟨⟨rfl, rfl⟩, rfl⟩
 | .c x :: vs, y :: xs, sh, cs, h, ha, hn => by
  simp only [yY] at h
  split at h
  ·rename_i s ds hs
   simp only [Option.some.injEq, Prod.mk.injEq] at h
   obtain ⟨rfl, rfl⟩ := h
   obtain ⟨g1, g2⟩ := qBv hs ha.2 (fun c hc => hn c (List.mem_cons_of_mem _ hc))
   exact ⟨⟨qBO (hn x List.mem_cons_self) ha.1, g1⟩, by simp [g2]⟩
  ·cases h
 | .agg ys :: vs, y :: xs, sh, cs, h, ha, hn => by
  simp only [yY] at h
  split at h
  ·rename_i s ds hs
   simp only [Option.some.injEq, Prod.mk.injEq] at h
   obtain ⟨rfl, rfl⟩ := h
   obtain ⟨g1, g2⟩ := qBv hs ha.2 (fun c hc => hn c (List.mem_append_right _ hc))
   obtain ⟨arr, rfl, h1⟩ := ha.1
   refine ⟨⟨arr, rfl, by simp, ?_, by simpa using g1⟩, by simp [g2]⟩
   simp only [List.take_left']
   exact (h1.impMem fun c v hc hr => qBO (hn c (List.mem_append_left _ hc)) hr)
  ·cases h
 | .undef :: vs, _, sh, cs, h, _, _ => by simp [yY] at h
 | .tup _ :: vs, _, sh, cs, h, _, _ => by simp [yY] at h
theorem qD5 (h : Rep φ ρ st a w) {x : CV} {n : Nat} {u : Value} (hx : CVR ρ w x u) (hv : qCy st x = some n) : ∃ b c, u = .slice b n c := by
 cases x with
 | emp => simp only [qCy, Option.some.injEq] at hv; subst hv; obtain ⟨b, rfl⟩ := (hx : zQ ρ w (.emp _ _) u); exact ⟨b, 0, rfl⟩
 | vw d lo hi =>
  simp only [qCy, Option.some.injEq] at hv; subst hv
  obtain ⟨_, _, _, b, _, _, _, _, rfl, _⟩ := (hx : zQ ρ w (.vw d lo hi) u)
  exact ⟨b, _, rfl⟩
 | dat e t l => simp only [qCy, Option.some.injEq] at hv; subst hv; obtain ⟨b, c, rfl, _⟩ := (hx : qDd ρ.F w t l u); exact ⟨b, c, rfl⟩
 | own d =>
  simp only [qCy] at hv
  split at hv
  ·rename_i r hr
   split at hv
   ·cases hv
   rename_i hnm
   simp only [Option.some.injEq] at hv; subst hv
   obtain ⟨b, c, e1, _⟩ := h.rowVal hr (by simpa using hnm)
   exact ⟨b, c, hx.1.trans e1⟩
  ·cases hv
 | nref d i off =>
  simp only [qCy] at hv
  split at hv
  ·rename_i s hs
   simp only [Option.some.injEq] at hv; subst hv
   obtain ⟨b, c, e1, _⟩ := wW h hs hx
   exact ⟨b, c, e1⟩
  ·cases hv
 | _ => simp [qCy] at hv
theorem qJt : ∀ {xs : List CV} {x r : CV} {u : Value} {vs : List Value}, CVR ρ w x u -> jC (CVR ρ w) xs vs -> kC false x xs = some r -> ∃ z, (vs.foldlM Builtin.min2 u).run P w = .ok z w /\ CVR ρ w r z
 | [], x, r, u, [], hx, _, h => by simp only [kC, Option.some.injEq] at h; subst h; exact ⟨u, rfl, hx⟩
 | y :: ys, x, r, u, v :: vs, hx, ha, h => by
  unfold kC at h
  split at h
  ·rename_i hh; cases hh
  ·rename_i k n k' m rest hh
   simp only [List.cons.injEq] at hh
   obtain ⟨rfl, rfl⟩ := hh
   split at h
   ·rename_i hk
    subst hk
    rw [show u = .int k n from hx, show v = .int k m from ha.1, List.foldlM_cons, Sem.run_bind]
    show ∃ z, (List.foldlM Builtin.min2 (.int k (if m < n then m else n)) vs).run P w = _ /\ _
    exact qJt (x := .int k (if m < n then m else n)) rfl ha.2 (by simpa using h)
   ·cases h
  ·cases h
theorem qJv : ∀ {xs : List CV} {x r : CV} {u : Value} {vs : List Value}, CVR ρ w x u -> jC (CVR ρ w) xs vs -> kC true x xs = some r -> ∃ z, (vs.foldlM Builtin.max2 u).run P w = .ok z w /\ CVR ρ w r z
 | [], x, r, u, [], hx, _, h => by simp only [kC, Option.some.injEq] at h; subst h; exact ⟨u, rfl, hx⟩
 | y :: ys, x, r, u, v :: vs, hx, ha, h => by
  unfold kC at h
  split at h
  ·rename_i hh; cases hh
  ·rename_i k n k' m rest hh
   simp only [List.cons.injEq] at hh
   obtain ⟨rfl, rfl⟩ := hh
   split at h
   ·rename_i hk
    subst hk
    rw [show u = .int k n from hx, show v = .int k m from ha.1, List.foldlM_cons, Sem.run_bind]
    show ∃ z, (List.foldlM Builtin.max2 (.int k (if m > n then m else n)) vs).run P w = _ /\ _
    exact qJv (x := .int k (if m > n then m else n)) rfl ha.2 (by simpa using h)
   ·cases h
  ·cases h
theorem qJ9 : ∀ {vs : List SV} {xs : List CV} {us : List Value}, cvs vs = some xs -> jC (SVR ρ w) vs us -> jC (CVR ρ w) xs us
 | [], xs, [], h, _ => by simp only [cvs, Option.some.injEq] at h; subst h; trivial
 | .c x :: vs, xs, u :: us, h, ha => by
  simp only [cvs] at h
  cases hr : cvs vs with
  | none => simp [hr] at h
  | some ys =>
   simp only [hr, Option.map_some, Option.some.injEq] at h
   subst h
   exact ⟨ha.1, qJ9 hr ha.2⟩
 | .agg _ :: _, _, _, h, _ => by simp [cvs] at h
 | .undef :: _, _, _, h, _ => by simp [cvs] at h
 | .tup _ :: _, _, _, h, _ => by simp [cvs] at h
theorem qIy (l : List Int) : ∀ (s : ByteArray), l.foldl (fun r n => r.push (UInt8.ofNat n.toNat)) s = ⟨⟨s.data.toList ++ qX l⟩⟩ := by
 induction l with
 | nil => intro s; simp [qX]
 | cons n l ih =>
  intro s
  rw [List.foldl_cons, ih]
  simp [qX, ByteArray.push]
theorem qI9 {l : List Int} {u : Value} {F : Nat -> Prop} (h : qDd F w (.int .u8) l u) : (Conv.bytesToString u).run P w = .ok (.string ⟨⟨qX l⟩⟩) w := by
 obtain ⟨b, c, rfl, _, g⟩ := h
 cases b with
 | none =>
  have : l = [] := by
   cases l with
   | nil => rfl
   | cons x l => obtain ⟨_, _, _, h1, _⟩ := g 0 (by simp); cases h1
  subst this
  rfl
 | some ad =>
  have hl : (loadCells ad l.length).run P w = .ok (l.map (Value.int .u8)).toArray w := by
   have := run_loadCells_list (P := P) w ad (l.map (Value.int .u8)) (fun j v hv => by
    obtain ⟨hj, rfl⟩ := List.getElem?_eq_some_iff.1 hv
    have hj' : j < l.length := by simpa using hj
    obtain ⟨k, off, cs, h1, _, h2, h3⟩ := g j hj'
    simp only [Option.some.injEq] at h1
    subst h1
    rw [Rd] at h3
    subst h3
    have := h2 0 (by simp)
    rw [vA]
    simpa [Ty.sz] using this)
   simpa using this
  rw [run_bytesToString w ad _ c l hl, qIy]
  rfl
end
theorem qBX {w : World} {o : Obj} {y : Nat} (h : y < w.heap.size) : (w.heap.push o)[y]? = w.heap[y]? := by
 rw [Array.getElem?_push]; rw [if_neg (by omega)]
theorem jO.push (w : World) (o : Obj) : jO w { w with heap := w.heap.push o } := ⟨by simp, fun y hy => qBX hy, zD.refl _⟩
theorem jO.draw (w : World) : jO w { w with drawn := w.drawn + 1 } := ⟨Nat.le_refl _, fun _ _ => rfl, zD.refl _⟩
theorem qBq.zero (n : Nat) : qBq n (0, 0) := ⟨Nat.le_refl _, fun o _ h => by simp at h⟩
section
variable {φ : Fix} {ρ : Env} {st : St} {a : Act} {w : World} {P : Program} {C : Ctx}
theorem qFe (h : Rep φ ρ st a w) {t : TypeId} {b : Nat} {cs : List CV} {v : Value} (hc : jC (CVR ρ w) cs v.cells.toList) {s : Sem Value}
  (hs : s.run P w = .ok (.pointer (some ⟨w.heap.size, 0, none⟩)) { w with heap := w.heap.push (.cells v.cells t) }) : Ans P φ s a w (st.addBox b { e := t, cs := cs, ro := false }) (.c (.pbox b 0)) := by
 obtain ⟨ρ', h', hb⟩ := h.addBox (x := { e := t, cs := cs, ro := false }) (b := b) (nb := w.heap.size) (arr := v.cells) (fr := (0, 0)) (jO.push w (.cells v.cells t)) (Nat.le_refl _) (xK.of (by simp) rfl) (qBq.zero _) hc
 refine ⟨ρ', _, _, hs, h', ?_⟩
 show (_ : Value) = _
 rw [hb]
theorem qIh (h : Rep φ ρ st a w) {b : Nat} {l : List UInt8} {s : Sem Value}
  (hs : s.run P w = .ok (.pointer (some ⟨w.heap.size, 0, none⟩)) { w with heap := w.heap.push (.stringIter ⟨⟨l⟩⟩ 0) }) : Ans P φ s a w (st.addBox b { e := 0, cs := [.str l, .int .i64 0], ro := false, it := true }) (.c (.pbox b 0)) := by
 obtain ⟨ρ', h', hb⟩ := h.addBox (x := { e := 0, cs := [.str l, .int .i64 0], ro := false, it := true }) (b := b) (nb := w.heap.size) (arr := #[.string ⟨⟨l⟩⟩, .int .i64 0]) (fr := (0, 0)) (jO.push w (.stringIter ⟨⟨l⟩⟩ 0)) (Nat.le_refl _) ⟨l, 0, by simp, rfl⟩ (qBq.zero _) ⟨rfl, rfl, trivial⟩
 refine ⟨ρ', _, _, hs, h', ?_⟩
 show (_ : Value) = _
 rw [hb]
theorem qLs (hC : jK P C) (h : Rep φ ρ st a w) {t : TypeId} {i : TI} (hi : C.ti t = some i) {b : Nat} : Ans P φ (Instr.alloc t true (.tuple #[])) a w (st.addBox b { e := t, cs := i.zero, ro := false }) (.c (.pbox b 0)) := by
 obtain ⟨inf, h1, _, _, z, h2, h3, _⟩ := (hC.ti t i hi).inf
 refine qFe h (v := z) ((h3 ρ w).imp fun _ _ => zL) ?_
 simp [Instr.alloc, zeroValue, typeInfo, h1, h2, newVar, newRow]
theorem qGK (hC : jK P C) {t : TypeId} {i : TI} (hi : C.ti t = some i) {w1 : World} {v : Value} (hr : (Instr.alloc t true (.tuple #[])).run P w = .ok v w1) : jO w w1 := by
 obtain ⟨inf, h1, _, _, z, h2, h3, _⟩ := (hC.ti t i hi).inf
 have e : (Instr.alloc t true (.tuple #[])).run P w = .ok (.pointer (some ⟨w.heap.size, 0, none⟩)) { w with heap := w.heap.push (.cells z.cells t) } := by
  simp [Instr.alloc, zeroValue, typeInfo, h1, h2, newVar, newRow]
 rw [e] at hr
 simp only [Result.ok.injEq] at hr
 rw [<- hr.2]
 exact jO.push w _
theorem qNX (h : Rep φ ρ st a w) {t : TypeId} {v : SV} {cs : List CV} {u : Value} {b : Nat} (hu : SVR ρ w v u) (hc : v.cells? = some cs) :
  Ans P φ (Instr.box t u) a w (st.addBox b { e := t, cs := cs, ro := false }) (.c (.pbox b 0)) := by
 refine qFe h (v := u) (qAk hc hu) ?_
 simp [Instr.box, newVar, newRow]
theorem qJV (new : Array Value) (off : Nat) (cs : Array Value) (hl : off + new.size <= cs.size) :
  (new.zipIdx.foldl (fun cs (c, j) => cs.setIfInBounds (off + j) c) cs).toList = cs.toList.take off ++ new.toList ++ cs.toList.drop (off + new.size) := by
 have key : ∀ (l : List Value) (k : Nat) (cs : Array Value), off + k + l.length <= cs.size ->
   ((l.zipIdx k).foldl (fun (cs : Array Value) (p : Value × Nat) => cs.setIfInBounds (off + p.2) p.1) cs).toList = cs.toList.take (off + k) ++ l ++ cs.toList.drop (off + k + l.length) := by
  intro l
  induction l with
  | nil => intro k cs _; simp
  | cons x l ih =>
   intro k cs hl
   simp only [List.length_cons] at hl
   rw [List.zipIdx_cons, List.foldl_cons, ih (k + 1) _ (by simp; omega)]
   have hlt : off + k < cs.size := by omega
   have e1 : (cs.toList.set (off + k) x).take (off + (k + 1)) = cs.toList.take (off + k) ++ [x] := by
    rw [show off + (k + 1) = off + k + 1 by omega, List.take_add_one, List.take_set_of_le (Nat.le_refl _)]
    simp [hlt]
   have e2 : (cs.toList.set (off + k) x).drop (off + (k + 1) + l.length) = cs.toList.drop (off + k + (l.length + 1)) := by
    rw [List.drop_set_of_lt (by omega), show off + (k + 1) + l.length = off + k + (l.length + 1) by omega]
   simp only [Array.toList_setIfInBounds, List.length_cons]
   rw [e1, e2]
   simp
 have := key new.toList 0 cs (by simpa using hl)
 rw [<- Array.foldl_toList, Array.toList_zipIdx]
 simpa using this
theorem qGs (hC : jK P C) (h : Rep φ ρ st a w) {place : Nat -> Option (Nat × Nat × TypeId)} {pl : Nat -> Option (Nat × Nat)} (hp : ∀ j off n ft, place j = some (off, n, ft) -> pl j = some (off, n)) :
  ∀ {parts : List (Nat × Operand)} {cs cs' : List CV} {vs : Array Value}, qFE C place st cs parts = some cs' -> jC (CVR ρ w) cs vs.toList ->
   ∃ vs' : Array Value, Instr.fill pl vs (parts.map fun (i, x) => (i, a.eval x)) = some vs' /\ jC (CVR ρ w) cs' vs'.toList /\ cs'.length = cs.length
 | [], cs, cs', vs, hf, ha => by simp only [qFE, Option.some.injEq] at hf; subst hf; exact ⟨vs, rfl, ha, rfl⟩
 | (i, x) :: parts, cs, cs', vs, hf, ha => by
  simp only [qFE] at hf
  split at hf
  ·cases hf
  ·rename_i off n ft hpl
   split at hf
   ·rename_i v hv
    split at hf
    ·rename_i new hnew
     split at hf
     ·rename_i hlen
      split at hf
      ·rename_i cs1 hset
       unfold qNy at hset
       split at hset
       ·rename_i hle
        simp only [Option.some.injEq] at hset
        have hx := qAD h hv
        have hcx := qAk hnew hx
        have e1 : (a.eval x).cells.size = n := by have := hcx.length; simp only [Array.length_toList] at this; omega
        have e2 : vs.size = cs.length := by have := ha.length; simp only [Array.length_toList] at this; omega
        have hfold := qJV (a.eval x).cells off vs (by omega)
        obtain ⟨vs', g1, g2, g3⟩ := qGs hC h hp (parts := parts) (vs := (a.eval x).cells.zipIdx.foldl (fun cs (c, j) => cs.setIfInBounds (off + j) c) vs) hf (by
         rw [hfold, <- hset, e1, <- hlen]
         exact ((ha.take off).append hcx).append (ha.drop _))
        refine ⟨vs', ?_, g2, ?_⟩
        ·simp only [List.map_cons, Instr.fill, hp _ _ _ _ hpl]
         rw [if_neg (by simp [e1]; omega)]
         exact g1
        ·rw [g3, <- hset]; simp; omega
       ·cases hset
      ·cases hf
     ·cases hf
    ·cases hf
   ·cases hf
theorem qCS {P : Program} : ∀ (fs : List Field), (∀ f, f ∈ fs -> (P.info? f.type).isSome = true) -> ∃ ps : List (Nat × Nat), fs.mapM (fun f => (P.info? f.type).map fun i => (f.offset, i.size)) = some ps /\
  ∀ (j : Nat) f, fs[j]? = some f -> ∃ i, P.info? f.type = some i /\ ps[j]? = some (f.offset, i.size)
 | [], _ => ⟨[], by simp, fun j f h => by simp at h⟩
 | f :: fs, h => by
  obtain ⟨i, hi⟩ := Option.isSome_iff_exists.1 (h f List.mem_cons_self)
  obtain ⟨ps, h1, h2⟩ := qCS fs fun g hg => h g (List.mem_cons_of_mem _ hg)
  refine ⟨(f.offset, i.size) :: ps, by simp [List.mapM_cons, hi, h1], fun j g hg => ?_⟩
  cases j with
  | zero => simp only [List.getElem?_cons_zero, Option.some.injEq] at hg; subst hg; exact ⟨i, hi, rfl⟩
  | succ j => exact h2 j g (by simpa using hg)
theorem qLn (hC : jK P C) (h : Rep φ ρ st a w) {t : TypeId} {i : TI} (hi : C.ti t = some i) (hne : i.fields ≠ []) {parts : Array (Nat × Operand)} {cs : List CV} {base : Nat}
  (hf : qFE C (fun j => match i.fields[j]? with
    | some (off, ft) => (qCv C ft).map fun s => (off, s.2, ft)
    | none => none) st i.zero parts.toList = some cs) : Ans P φ (Instr.build t (parts.map fun (i, x) => (i, a.eval x))) a w (xM st base 0 cs).2 (.agg (xM st base 0 cs).1) := by
 have T := hC.ti t i hi
 obtain ⟨fs, hu⟩ := T.strct hne
 obtain ⟨hsz, hfs⟩ := T.flds fs hu
 obtain ⟨inf, h1, _, _, z, h2, h3, _⟩ := T.inf
 obtain ⟨ps, hps, hpj⟩ := qCS (P := P) fs.toList fun f hf => by
  obtain ⟨j, hj, rfl⟩ := List.getElem_of_mem hf
  simp only [Array.length_toList] at hj
  have hj' : j < i.fields.length := by omega
  obtain ⟨fd, g1, g2, g3, g4⟩ := hfs j _ _ (List.getElem?_eq_getElem hj')
  have : fs[j]? = some fs[j] := by simp [hj]
  rw [this] at g1
  simp only [Option.some.injEq] at g1
  simp only [Array.getElem_toList]
  rw [g1, g3]; exact g4
 obtain ⟨vs', g1, g2, _⟩ := qGs hC h (pl := (ps.toArray[·]?)) (vs := z.cells) (fun j off n ft hj => by
  cases hfj : i.fields[j]? with
  | none => simp [hfj] at hj
  | some q =>
   obtain ⟨off', ft'⟩ := q
   simp only [hfj, Option.map_eq_some_iff] at hj
   obtain ⟨⟨g, n'⟩, e1, e2⟩ := hj
   simp only [Prod.mk.injEq] at e2
   obtain ⟨rfl, rfl, rfl⟩ := e2
   obtain ⟨ji, hji, _, hn⟩ := qD2 e1
   obtain ⟨fd, k1, k2, k3, _⟩ := hfs j off' ft' hfj
   obtain ⟨i2, k4, k5⟩ := hpj j fd (by simpa using k1)
   obtain ⟨inf2, q1, q2, _⟩ := (hC.ti ft' ji hji).inf
   rw [k3, q1] at k4
   simp only [Option.some.injEq] at k4
   subst k4
   simpa [<- k2, <- hn, <- q2] using k5) hf ((h3 ρ w).imp fun _ _ => zL)
 obtain ⟨ρ', k1, k2, _, _, _⟩ := qA3 (base := base) (j := 0) (fun _ => False) h (g2.imp fun c v hcv => ⟨qAc hcv, fun _ => hcv⟩)
 refine ⟨ρ', .agg vs', w, ?_, k1, vs', rfl, k2.imp fun c v hcv => hcv.2 fun d hd => hd.elim⟩
 refine run_build w t _ vs' ?_
 unfold Program.built
 simp only [h1, hu, h2, hps]
 rw [<- g1]
 congr 1
 simp
end
def OC (F : Nat -> Prop) (w : World) (n : Nat) : CV -> (Nat -> Prop) -> Value -> Prop
 | .dat e t l, B, v => qJ F w (.sl e t) n l B [v]
 | c, _, v => DC F w c v
def OCs (F : Nat -> Prop) (w : World) (n : Nat) : List CV -> (Nat -> Prop) -> List Value -> Prop
 | [], _, [] => True
 | c :: cs, B, v :: vs => ∃ B1 B2, (∀ x, B1 x -> B x /\ ¬ B2 x) /\ (∀ x, B2 x -> B x) /\ OC F w n c B1 v /\ OCs F w n cs B2 vs
 | _, _, _ => False
theorem qQp {F : Nat -> Prop} {w : World} {n : Nat} {c : CV} {B B' : Nat -> Prop} {v : Value} (hB : ∀ y, B y -> B' y) (h : OC F w n c B v) : OC F w n c B' v := by
 cases c <;> first | exact zP hB h | exact h
theorem qH3 {F : Nat -> Prop} {w : World} {n : Nat} : ∀ {cs : List CV} {B B' : Nat -> Prop} {vs : List Value}, (∀ y, B y -> B' y) -> OCs F w n cs B vs -> OCs F w n cs B' vs
 | [], _, _, [], _, _ => trivial
 | _ :: _, _, _, _ :: _, hB, h => by
  obtain ⟨B1, B2, h1, h2, h3, h4⟩ := h
  exact ⟨B1, B2, fun x hx => ⟨hB _ (h1 x hx).1, (h1 x hx).2⟩, fun x hx => hB _ (h2 x hx), h3, h4⟩
theorem qGP {F : Nat -> Prop} {w : World} {n : Nat} : ∀ {cs : List CV} {B : Nat -> Prop} {vs : List Value}, OCs F w n cs B vs -> cs.length = vs.length
 | [], _, [], _ => rfl
 | _ :: _, _, _ :: _, h => by obtain ⟨_, _, _, _, _, h⟩ := h; simp [qGP h]
theorem qEK {F F' : Nat -> Prop} {w w' : World} {n : Nat} {c : CV} {B : Nat -> Prop} {v : Value} (hF : ∀ b, F b -> F' b) (ha : qC F w w') (hb : qC B w w') (h : OC F w n c B v) : OC F' w' n c B v := by
 cases c <;> simp only [OC] at h ⊢ <;> first | exact jA hF ha hb h | exact qGQ hF ha h
theorem qAn {F F' : Nat -> Prop} {w w' : World} {n : Nat} (hF : ∀ b, F b -> F' b) (ha : qC F w w') : ∀ {cs : List CV} {B : Nat -> Prop} {vs : List Value}, qC B w w' -> OCs F w n cs B vs -> OCs F' w' n cs B vs
 | [], _, [], _, _ => trivial
 | _ :: _, _, _ :: _, hb, h => by
  obtain ⟨B1, B2, h1, h2, h3, h4⟩ := h
  exact ⟨B1, B2, h1, h2, qEK hF ha (hb.mono fun x hx => (h1 x hx).1) h3, qAn hF ha (hb.mono h2) h4⟩
theorem qKC {F : Nat -> Prop} {w : World} {n k : Nat} {c : CV} {B : Nat -> Prop} {v : Value} (hk : k <= n) (h : OC F w n c B v) : ∃ B', (∀ y, B' y -> B y) /\ OC (fun y => F y \/ (B y /\ ¬ B' y)) w k c B' v := by
 cases c with
 | dat e t l => exact qBk hk h
 | _ =>
  simp only [OC] at h ⊢
  exact ⟨fun _ => False, fun _ h => h.elim, qGQ (fun _ h => .inl h) (qC.refl _ _) h⟩
theorem qCq {F : Nat -> Prop} {w : World} {n k : Nat} (hk : k <= n) : ∀ {cs : List CV} {B : Nat -> Prop} {vs : List Value}, OCs F w n cs B vs -> ∃ B', (∀ y, B' y -> B y) /\ OCs (fun y => F y \/ (B y /\ ¬ B' y)) w k cs B' vs
 | [], _, [], _ => ⟨fun _ => False, fun _ h => h.elim, trivial⟩
 | c :: cs, B, v :: vs, h => by
  obtain ⟨B1, B2, h1, h2, h3, h4⟩ := h
  obtain ⟨C1, g1, g2⟩ := qKC hk h3
  obtain ⟨C2, g3, g4⟩ := qCq hk h4
  refine ⟨fun y => C1 y \/ C2 y, fun y hy => hy.elim (fun hy => (h1 y (g1 y hy)).1) fun hy => h2 y (g3 y hy), C1, C2, fun y hy => ⟨.inl hy, fun hy' => (h1 y (g1 y hy)).2 (g3 y hy')⟩, fun y hy => .inr hy, ?_, ?_⟩
  ·refine qEK (fun y hy => hy.imp id fun hy => ⟨(h1 y hy.1).1, ?_⟩) (qC.refl _ _) (qC.refl _ _) g2
   rintro (hh | hh)
   ·exact hy.2 hh
   ·exact (h1 y hy.1).2 (g3 y hh)
  ·refine qAn (fun y hy => hy.imp id fun hy => ⟨h2 y hy.1, ?_⟩) (qC.refl _ _) (qC.refl _ _) g4
   rintro (hh | hh)
   ·exact (h1 y (g1 y hh)).2 hy.1
   ·exact hy.2 hh
theorem qFb {F : Nat -> Prop} {w : World} {n : Nat} : ∀ {t : Ty} {cs : List CV} {x : t.T} {r : List CV} {B : Nat -> Prop} {vs : List Value}, t.pack cs = some (x, r) -> OCs F w n cs B vs ->
  ∃ v1 v2 B1 B2, vs = v1 ++ v2 /\ (∀ y, B1 y -> B y /\ ¬ B2 y) /\ (∀ y, B2 y -> B y) /\ qJ F w t n x B1 v1 /\ OCs F w n r B2 v2 := by
 intro t
 have one : ∀ {t : Ty} {c : CV} {cs : List CV} {x : t.T} {B : Nat -> Prop} {vs : List Value}, OCs F w n (c :: cs) B vs -> (∀ B v, OC F w n c B v -> qJ F w t n x B [v]) ->
   ∃ v1 v2 B1 B2, vs = v1 ++ v2 /\ (∀ y, B1 y -> B y /\ ¬ B2 y) /\ (∀ y, B2 y -> B y) /\ qJ F w t n x B1 v1 /\ OCs F w n cs B2 v2 := by
  intro t c cs x B vs h hx
  cases vs with
  | nil => exact h.elim
  | cons v vs =>
   obtain ⟨B1, B2, h1, h2, h3, h4⟩ := h
   exact ⟨[v], vs, B1, B2, rfl, h1, h2, hx _ _ h3, h4⟩
 induction t with
 | int k =>
  intro cs x r B vs h ha
  cases cs with
  | nil => simp [Ty.pack] at h
  | cons c cs =>
   cases c <;> simp [Ty.pack] at h
   obtain ⟨rfl, rfl, rfl⟩ := h
   exact one ha fun B v hv => by rw [qJ, show v = _ from hv]
 | bool =>
  intro cs x r B vs h ha
  cases cs with
  | nil => simp [Ty.pack] at h
  | cons c cs =>
   cases c <;> simp [Ty.pack] at h
   obtain ⟨rfl, rfl⟩ := h
   exact one ha fun B v hv => by rw [qJ, show v = _ from hv]
 | str =>
  intro cs x r B vs h ha
  cases cs with
  | nil => simp [Ty.pack] at h
  | cons c cs =>
   cases c <;> simp [Ty.pack] at h
   obtain ⟨rfl, rfl⟩ := h
   exact one ha fun B v hv => by rw [qJ, show v = _ from hv]
 | unit =>
  intro cs x r B vs h ha
  simp [Ty.pack] at h
  subst h
  exact ⟨[], vs, fun _ => False, B, rfl, fun _ h => h.elim, fun _ h => h, by rw [qJ], ha⟩
 | prod a b iha ihb =>
  intro cs x r B vs h ha
  simp only [Ty.pack] at h
  split at h
  ·rename_i y r1 h1
   split at h
   ·rename_i z r2 h2
    simp only [Option.some.injEq, Prod.mk.injEq] at h
    obtain ⟨rfl, rfl⟩ := h
    obtain ⟨v1, v2, B1, B2, rfl, g1, g2, g3, g4⟩ := iha h1 ha
    obtain ⟨v3, v4, B3, B4, rfl, g5, g6, g7, g8⟩ := ihb h2 g4
    refine ⟨v1 ++ v3, v4, fun y => B1 y \/ B3 y, B4, by simp, fun y hy => ?_, fun y hy => g2 y (g6 y hy), ?_, g8⟩
    ·rcases hy with hy | hy
     ·exact ⟨(g1 y hy).1, fun h' => (g1 y hy).2 (g6 y h')⟩
     ·exact ⟨g2 y (g5 y hy).1, (g5 y hy).2⟩
    ·rw [qJ]
     exact ⟨v1, v3, B1, B3, rfl, fun y hy => ⟨.inl hy, fun h' => (g1 y hy).2 (g5 y h').1⟩, fun y hy => .inr hy, g3, g7⟩
   ·cases h
  ·cases h
 | ptr e t iht =>
  intro cs x r B vs h ha
  cases cs with
  | nil => simp [Ty.pack] at h
  | cons c cs =>
   cases c with
   | pdat e' t' y off =>
    cases off with
    | zero =>
     simp only [Ty.pack] at h
     split at h
     ·split at h
      ·rename_i hT
       subst hT
       simp only [Option.some.injEq, Prod.mk.injEq] at h
       obtain ⟨rfl, rfl⟩ := h
       exact one ha fun B v hv => by
        obtain ⟨b, o, cs', e1, h1, h2, h3⟩ := hv
        rw [qJ, Rd]; exact ⟨b, o, cs', by rw [e1]; rfl, h1, h2, h3⟩
      ·cases h
     ·cases h
    | succ n => simp [Ty.pack] at h
   | _ => simp [Ty.pack] at h
 | sl e t iht =>
  intro cs x r B vs h ha
  cases cs with
  | nil => simp [Ty.pack] at h
  | cons c cs =>
   cases c with
   | dat e' t' l =>
    simp only [Ty.pack] at h
    split at h
    ·rename_i he
     split at h
     ·rename_i hT
      subst hT; subst he
      simp only [Option.some.injEq, Prod.mk.injEq] at h
      obtain ⟨rfl, rfl⟩ := h
      exact one ha fun B v hv => hv
     ·cases h
    ·cases h
   | emp e' t' =>
    simp only [Ty.pack] at h
    split at h
    ·simp only [Option.some.injEq, Prod.mk.injEq] at h
     obtain ⟨rfl, rfl⟩ := h
     exact one ha fun B v hv => by
      obtain ⟨a, rfl⟩ := hv
      cases n with
      | zero => rw [qJ, kB]; exact ⟨_, rfl, a, 0, rfl, Nat.le_refl _, fun i hi => by simp at hi⟩
      | succ n => rw [qJ]; exact ⟨_, rfl, a, 0, rfl, .inl ⟨rfl, rfl⟩⟩
    ·cases h
   | _ => simp [Ty.pack] at h
theorem qBA {F : Nat -> Prop} {w : World} {n : Nat} {t : Ty} {cs : List CV} {x : t.T} {B : Nat -> Prop} {vs : List Value} (h : t.pack1 cs = some x) (ha : OCs F w n cs B vs) : qJ F w t n x B vs := by
 unfold Ty.pack1 at h
 split at h
 ·rename_i y hp
  simp only [Option.some.injEq] at h
  subst h
  obtain ⟨v1, v2, B1, B2, rfl, g1, g2, g3, g4⟩ := qFb hp ha
  cases v2 with
  | nil => simpa using zP (fun y hy => (g1 y hy).1) g3
  | cons _ _ => exact g4.elim
 ·cases h
theorem qDN {F : Nat -> Prop} {w : World} {m : Nat} {t : Ty} : ∀ {n : Nat} {cs : List CV} {l : List t.T} {B : Nat -> Prop} {vs : List Value}, qEr t n cs = some l -> OCs F w m cs B vs ->
  l.length = n /\ vs.length = n * t.sz /\ ∃ Bs : Nat -> Nat -> Prop, (∀ i x, i < n -> Bs i x -> B x) /\ (∀ i j x, i < n -> j < n -> Bs i x -> Bs j x -> i = j) /\
   ∀ i (h : i < l.length), qJ F w t m l[i] (Bs i) ((vs.drop (i * t.sz)).take t.sz)
 | 0, cs, l, B, vs, h, ha => by
  simp only [qEr] at h
  split at h
  ·rename_i hcs
   simp only [Option.some.injEq] at h
   subst h
   have : cs = [] := by simpa using hcs
   subst this
   cases vs with
   | nil => exact ⟨rfl, by simp, fun _ _ => False, fun _ _ _ h => h.elim, fun _ _ _ _ _ h => h.elim, fun i hi => by simp at hi⟩
   | cons _ _ => exact ha.elim
  ·cases h
 | n + 1, cs, l, B, vs, h, ha => by
  simp only [qEr] at h
  split at h
  ·rename_i x r hx
   split at h
   ·rename_i xs hxs
    simp only [Option.some.injEq] at h
    subst h
    obtain ⟨v1, v2, B1, B2, rfl, g1, g2, g3, g4⟩ := qFb hx ha
    obtain ⟨k1, k2, Bs, k3, k4, k5⟩ := qDN hxs g4
    have hlen := jB g3
    refine ⟨by simp [k1], by simp [hlen, k2, Nat.add_mul]; omega, fun i => match i with | 0 => B1 | i + 1 => Bs i, ?_, ?_, ?_⟩
    ·intro i x hi hx
     cases i with
     | zero => exact (g1 x hx).1
     | succ i => exact g2 x (k3 i x (by omega) hx)
    ·intro i j x hi hj hxi hxj
     cases i with
     | zero =>
      cases j with
      | zero => rfl
      | succ j => exact absurd (k3 j x (by omega) hxj) (g1 x hxi).2
     | succ i =>
      cases j with
      | zero => exact absurd (k3 i x (by omega) hxi) (g1 x hxj).2
      | succ j => rw [k4 i j x (by omega) (by omega) hxi hxj]
    ·intro i hi
     cases i with
     | zero => simp [<- hlen]; exact g3
     | succ i =>
      have := k5 i (by simpa using hi)
      have e1 : (v1 ++ v2).drop ((i + 1) * t.sz) = v2.drop (i * t.sz) := by
       rw [show (i + 1) * t.sz = v1.length + i * t.sz by rw [hlen, Nat.add_mul]; omega, List.drop_append]
       simp
      rw [e1]
      simpa using this
   ·cases h
  ·cases h
theorem qAm {F : Nat -> Prop} {w : World} {e : TypeId} {t : Ty} {m : Nat} {l : List t.T} {b : Nat} {arr : Array Value} {fr : Nat × Nat} {c : Nat} {vs : List Value} {B : Nat -> Prop} (hb : w.heap[b]? = some (.cells arr e fr))
  (hfr : qBq arr.size fr) (hc : c * t.sz <= arr.size) (hl : l.length <= c) (hvs : ∀ j, j < l.length * t.sz -> arr[j]? = vs[j]?) (hlen : vs.length = l.length * t.sz) (hB : B b)
  (Bs : Nat -> Nat -> Prop) (h1 : ∀ i x, i < l.length -> Bs i x -> B x /\ x ≠ b) (h2 : ∀ i j x, i < l.length -> j < l.length -> Bs i x -> Bs j x -> i = j)
  (h3 : ∀ i (h : i < l.length), qJ F w t m l[i] (Bs i) ((vs.drop (i * t.sz)).take t.sz)) : qJ F w (.sl e t) (m + 1) l B [.slice (some ⟨b, 0, none⟩) l.length c] := by
 rw [qJ]
 refine ⟨_, rfl, _, c, rfl, .inr ⟨b, arr, fr, rfl, hb, hfr, hc, hl, hB, Bs, h1, h2, fun i hi => ⟨_, fun j hj => ?_, h3 i hi⟩⟩⟩
 rw [jV]
 refine ⟨arr, e, fr, hb, ?_⟩
 have hj' : j < t.sz := by
  have := jB (h3 i hi)
  omega
 have : i * t.sz + j < l.length * t.sz := by
  have h5 : (i + 1) * t.sz <= l.length * t.sz := Nat.mul_le_mul_right _ hi
  rw [Nat.add_mul] at h5
  omega
 rw [hvs _ this]
 rw [List.getElem_take, List.getElem_drop]
 exact List.getElem?_eq_getElem (by omega)
section
variable {φ : Fix} {ρ : Env} {st : St} {a : Act} {w : World} {P : Program} {C : Ctx}
theorem qD4 (hC : jK P C) {t e : TypeId} {ei : TI} {u : Ty} (h : qH9 C t = some (e, ei, u)) : P.underlying t = some (.slice e) /\ C.ti e = some ei /\ ei.ty = some u := by
 unfold qH9 at h
 cases hi : C.ti t with
 | none => simp [hi] at h
 | some i =>
  simp only [hi] at h
  cases he : i.elem with
  | none => simp [he] at h
  | some e' =>
   simp only [he] at h
   cases hj : C.ti e' with
   | none => simp [hj] at h
   | some j =>
    simp only [hj] at h
    cases hu : j.ty with
    | none => simp [hu] at h
    | some u' =>
     simp only [hu, Option.some.injEq, Prod.mk.injEq] at h
     obtain ⟨rfl, rfl, rfl⟩ := h
     exact ⟨(hC.ti t i hi).elem _ he, hj, hu⟩
theorem qAN {F : Nat -> Prop} {n : Nat} : ∀ {cs : List CV} {vs : List Value} {B : Nat -> Prop}, (∀ ρ w, jC (zQ ρ w) cs vs) -> (∀ c, c ∈ cs -> ∀ e t l, c ≠ .dat e t l) -> ∀ w, OCs F w n cs B vs
 | [], vs, B, h, _, w => by
  have := h ⟨F, fun _ => False, fun _ => .nilFunc, fun _ => .unit, fun _ _ => False, fun _ => 0⟩ w
  cases vs with
  | nil => trivial
  | cons _ _ => exact this.elim
 | c :: cs, vs, B, h, hn, w => by
  cases vs with
  | nil => exact (h ⟨F, fun _ => False, fun _ => .nilFunc, fun _ => .unit, fun _ _ => False, fun _ => 0⟩ w).elim
  | cons v vs =>
   refine ⟨fun _ => False, B, fun _ h => h.elim, fun _ h => h, ?_, qAN (fun ρ w => (h ρ w).2) (fun c hc => hn c (List.mem_cons_of_mem _ hc)) w⟩
   have hd : DC F w c v := qF5 (zL (h ⟨F, fun _ => False, fun _ => .nilFunc, fun _ => .unit, fun _ _ => False, fun _ => 0⟩ w).1)
   cases c with
   | dat e t l => exact absurd rfl (hn _ List.mem_cons_self e t l)
   | _ => exact hd
theorem qII {n : Int} (h0 : 0 <= n) (h1 : n <= 70368744177664) : IntKind.i64.wrap n = n := by
 simp [IntKind.wrap, IntKind.bits, IntKind.signed]; omega
theorem qFn {i : TI} {n : Nat} (h : n <= qIl i) : n <= 70368744177664 /\ i.bytes * n <= 70368744177664 := by
 have h1 : n * (i.bytes + 1) <= 70368744177664 := (Nat.le_div_iff_mul_le (Nat.succ_pos _)).1 h
 have h2 : n * (i.bytes + 1) = n * i.bytes + n := by rw [Nat.mul_add, Nat.mul_one]
 have h3 : n * i.bytes = i.bytes * n := Nat.mul_comm _ _
 omega
theorem qAf (z : Array Value) (n i : Nat) (hi : i < n * z.size) : ((Array.range (n * z.size)).map (z[· % z.size]!))[i]? = z[i % z.size]? := by
 have hz : 0 < z.size := by
  rcases Nat.eq_zero_or_pos z.size with h | h
  ·rw [h] at hi; omega
  ·exact h
 have hm : i % z.size < z.size := Nat.mod_lt _ hz
 simp [hi, hm]
theorem qFk (hC : jK P C) (h : Rep φ ρ st a w) {t e : TypeId} {ei : TI} {u : Ty} (ht : qH9 C t = some (e, ei, u)) {z : u.T} (hz : u.pack1 ei.zero = some z) (hsz : ei.size = u.sz)
  {k k' : IntKind} {n : Int} (h0 : 0 <= n) (h1 : n <= (qIl ei : Int)) {d : Nat} :
  Ans P φ (Instr.makeSlice t (.int k n) (.int k' n)) a w (st.addRow d { e := e, t := u, l := List.replicate n.toNat z, m := 99 }) (.c (.own d)) := by
 obtain ⟨hu, hei, hty⟩ := qD4 hC ht
 have T := hC.ti e ei hei
 obtain ⟨inf, i1, i2, i3, zv, i4, i5, i6, _⟩ := T.inf
 obtain ⟨l1, l2⟩ := qFn (i := ei) (n := n.toNat) (by omega)
 have hw : IntKind.i64.wrap n = n := qII h0 (by omega)
 have hb : ¬ ((inf.bytes : Int) * n > 281474976710656) := by
  rw [i3, show n = ((n.toNat : Nat) : Int) by omega, <- Int.natCast_mul]; omega
 have hn0 : ¬ n < 0 := by omega
 obtain ⟨N, rfl⟩ : ∃ N : Nat, n = (N : Int) := ⟨n.toNat, by omega⟩
 simp only [Int.toNat_natCast] at *
 let cells : Array Value := (Array.range (N * zv.cells.size)).map (zv.cells[· % zv.cells.size]!)
 have hcsz : cells.size = N * u.sz := by simp [cells, i6, hsz]
 have hcell : ∀ i, i < N * u.sz -> cells[i]? = zv.cells[i % u.sz]? := fun i hi => by
  have := qAf zv.cells N i (by rw [i6, hsz]; exact hi)
  rw [i6, hsz] at this
  simpa [cells, i6, hsz] using this
 have hrun : (Instr.makeSlice t (.int k (N : Int)) (.int k' (N : Int))).run P w = .ok (.slice (some ⟨w.heap.size, 0, none⟩) N N) { w with heap := w.heap.push (.cells cells e) } := by
  have hmul : ¬ ((281474976710656 : Int) < (inf.bytes : Int) * (N : Int)) := by omega
  by_cases hNz : N * zv.cells.size = 0
  ·have hcz : cells = #[] := Array.eq_empty_of_size_eq_zero (by rw [hcsz, <- hsz, <- i6]; exact hNz)
   have hNz' : N = 0 \/ inf.size = 0 := by rw [i2, <- i6]; exact Nat.mul_eq_zero.1 hNz
   simp [Instr.makeSlice, run_underlying hu, asInt, asIntOf, typeInfo, sizeOf, i1, hw, hn0, hmul, hNz', newRow, hcz]
   have hr0 : ∀ f : Nat -> Value, Array.map f (Array.range 0) = #[] := fun f => Array.eq_empty_of_size_eq_zero (by simp)
   rcases hNz' with h' | h' <;> simp [h', hr0]
  ·have hNz' : ¬ (N = 0 \/ inf.size = 0) := by rw [i2, <- i6]; intro h'; exact hNz (Nat.mul_eq_zero.2 h')
   have : inf.size = zv.cells.size := by rw [i2, i6]
   simp [Instr.makeSlice, run_underlying hu, asInt, asIntOf, typeInfo, sizeOf, zeroValue, i1, i4, hw, hn0, hmul, hNz', newRow, cells, this]
   intro h'
   exact absurd h' hNz
 have g := jO.push w (.cells cells e)
 have hblk : ({ w with heap := w.heap.push (.cells cells e) } : World).heap[w.heap.size]? = some (.cells cells e (0, 0)) := by simp
 have hrow : qJ ρ.F { w with heap := w.heap.push (.cells cells e) } (.sl e u) 99 (List.replicate N z) (fun y => y = w.heap.size) [.slice (some ⟨w.heap.size, 0, none⟩) N N] := by
  have hvs : ∀ i, i < N -> ((cells.toList.drop (i * u.sz)).take u.sz) = zv.cells.toList := by
   intro i hi
   have hle : (i + 1) * u.sz <= N * u.sz := Nat.mul_le_mul_right _ hi
   rw [Nat.add_mul, Nat.one_mul] at hle
   apply List.ext_getElem?
   intro j
   by_cases hj : j < u.sz
   ·rw [List.getElem?_take_of_lt hj, List.getElem?_drop]
    have := hcell (i * u.sz + j) (by omega)
    rw [Nat.mul_comm i u.sz, Nat.mul_add_mod, Nat.mod_eq_of_lt hj] at this
    simpa [Nat.mul_comm] using this
   ·rw [List.getElem?_eq_none (by simp; omega), List.getElem?_eq_none (by simp [i6, hsz]; omega)]
  have := qAm (F := ρ.F) (e := e) (t := u) (m := 98) (l := List.replicate N z) (c := N) (vs := cells.toList) (B := fun y => y = w.heap.size) hblk (qBq.zero _) (by rw [hcsz]; exact Nat.le_refl _) (by simp)
   (fun j hj => by simp) (by simp [hcsz]) rfl (fun _ _ => False) (fun _ _ _ h => h.elim) (fun _ _ _ _ _ h => h.elim) (fun i hi => by
    have hi' : i < N := by simpa using hi
    rw [hvs i hi', List.getElem_replicate]
    exact qBA hz (qAN i5 T.nodat _))
  simpa using this
 refine ⟨_, _, _, hrun, h.addRow g (d := d) (r := { e := e, t := u, l := List.replicate N z, m := 99 }) rfl hrow (vD hrow (by decide)) ?_ ?_ ?_, ?_⟩
 ·rintro y rfl
  refine ⟨fun hf => ?_, by simp, .inr h.grow⟩
  have := (h.Fbd _ hf).1; omega
 ·rintro e' r' _ hr' y hy rfl
  have := (h.rF e' r' hr' _ hy).2.1; omega
 ·intro b x hx hb'
  obtain ⟨arr, fr, k1, _⟩ := h.boxes b x hx
  have := k1.lt
  omega
 ·simp [SVR, qEH, CVR, zQ, Env.setRow, Value.oneCell']
end
structure qI (φ : Fix) (ρ : Env) (st : St) (w : World) (B : Nat -> Prop) : Prop where
 row : ∀ d r, qL d st.rows = some r -> ∀ y, ρ.ft d y -> ¬ B y
 box : ∀ b x, qL b st.boxes = some x -> ¬ B (ρ.blk b)
 here : ∀ y, B y -> ¬ ρ.F y /\ y < w.heap.size /\ φ.mine y
theorem qI.sub {φ : Fix} {ρ : Env} {st : St} {w : World} {B B' : Nat -> Prop} (h : qI φ ρ st w B) (hs : ∀ y, B' y -> B y) : qI φ ρ st w B' :=
 ⟨fun d r hr y hy hb => h.row d r hr y hy (hs y hb), fun b x hx hb => h.box b x hx (hs _ hb), fun y hy => h.here y (hs y hy)⟩
theorem qI.or {φ : Fix} {ρ : Env} {st : St} {w : World} {B B' : Nat -> Prop} (h : qI φ ρ st w B) (h' : qI φ ρ st w B') : qI φ ρ st w fun y => B y \/ B' y :=
 ⟨fun d r hr y hy hb => hb.elim (h.row d r hr y hy) (h'.row d r hr y hy), fun b x hx hb => hb.elim (h.box b x hx) (h'.box b x hx), fun y hy => hy.elim (h.here y) (h'.here y)⟩
theorem qI.none (φ : Fix) (ρ : Env) (st : St) (w : World) : qI φ ρ st w fun _ => False := ⟨fun _ _ _ _ _ h => h, fun _ _ _ h => h, fun _ h => h.elim⟩
structure Env.Sim (ρ ρ' : Env) : Prop where
 F : ∀ y, ρ.F y -> ρ'.F y
 val : ρ'.val = ρ.val
 ty : ρ'.ty = ρ.ty
 blk : ρ'.blk = ρ.blk
 ft : ∀ d y, ρ'.ft d y -> ρ.ft d y
theorem Env.Sim.refl (ρ : Env) : ρ.Sim ρ := ⟨fun _ h => h, rfl, rfl, rfl, fun _ _ h => h⟩
theorem Env.Sim.trans {ρ ρ' ρ'' : Env} (h : ρ.Sim ρ') (h' : ρ'.Sim ρ'') : ρ.Sim ρ'' :=
 ⟨fun y hy => h'.F y (h.F y hy), h'.val.trans h.val, h'.ty.trans h.ty, h'.blk.trans h.blk, fun d y hy => h.ft d y (h'.ft d y hy)⟩
section
variable {φ : Fix} {ρ : Env} {st : St} {a : Act} {w : World}
theorem Env.addF_le (ρ : Env) (G : Nat -> Prop) : ρ.Le (ρ.addF G) := ⟨fun y hy => .inl hy, fun _ h => h, rfl, rfl, rfl⟩
theorem Env.addF_sim (ρ : Env) (G : Nat -> Prop) : ρ.Sim (ρ.addF G) := ⟨fun y hy => .inl hy, rfl, rfl, rfl, fun _ _ h => h⟩
theorem Rep.addF (h : Rep φ ρ st a w) {G : Nat -> Prop} (hG : qI φ ρ st w G) : Rep φ (ρ.addF G) st a w :=
 { h with
  slots := fun s v hs => ⟨(h.slots s v hs).1, qDT (ρ.addF_le G) (h.slots s v hs).2⟩
  boxes := fun b x hx => by obtain ⟨arr, fr, h1, h2, h3⟩ := h.boxes b x hx; exact ⟨arr, fr, h1, h2, h3.imp fun _ _ => qBo (ρ.addF_le G)⟩
  rows := fun d r hr => ⟨(h.rows d r hr).1, (h.rows d r hr).2.1, vO (fun _ h => .inl h) (qC.refl _ _) (qC.refl _ _) (h.rows d r hr).2.2.1, (h.rows d r hr).2.2.2⟩
  rsep := h.rsep
  rF := fun d r hr y hy => ⟨fun hf => hf.elim (h.rF d r hr y hy).1 (hG.row d r hr y hy), (h.rF d r hr y hy).2⟩
  rb := h.rb, bsep := h.bsep
  bF := fun b x hx => ⟨fun hro hf => hf.elim ((h.bF b x hx).1 hro) (hG.box b x hx), (h.bF b x hx).2⟩
  Fbd := fun y hy => hy.elim (h.Fbd y) fun hy => ⟨(hG.here y hy).2.1, .inr (hG.here y hy).2.2⟩
  F0 := fun y hy => .inl (h.F0 y hy)
  lentR := h.lentR, lentB := h.lentB }
def Env.widen (ρ : Env) (d : Nat) (B : Nat -> Prop) : Env := { ρ with ft := fun e => if e = d then (fun y => ρ.ft d y \/ B y) else ρ.ft e }
theorem Rep.widen (h : Rep φ ρ st a w) {d : Nat} {r : Row} (hd : qL d st.rows = some r) {B : Nat -> Prop} (hB : qI φ ρ st w B) : Rep φ (ρ.widen d B) st a w := by
 have le : ρ.Le (ρ.widen d B) := ⟨fun _ h => h, fun _ h => h, rfl, rfl, rfl⟩
 have ft : ∀ e y, (ρ.widen d B).ft e y -> ρ.ft e y \/ (e = d /\ B y) := fun e y hy => by
  simp only [Env.widen] at hy
  split at hy
  ·rename_i he; subst he; exact hy.imp id fun hy => ⟨rfl, hy⟩
  ·exact .inl hy
 exact { h with
  slots := fun s v hs => ⟨(h.slots s v hs).1, qDT le (h.slots s v hs).2⟩
  boxes := fun b x hx => by obtain ⟨arr, fr, h1, h2, h3⟩ := h.boxes b x hx; exact ⟨arr, fr, h1, h2, h3.imp fun _ _ => qBo le⟩
  rows := fun e r' hr => by
   refine ⟨(h.rows e r' hr).1, (h.rows e r' hr).2.1, ?_, (h.rows e r' hr).2.2.2⟩
   simp only [Env.widen]
   split
   ·rename_i he; subst he; exact qFY (fun _ h => .inl h) (h.rows e r' hr).2.2.1
   ·exact (h.rows e r' hr).2.2.1
  rsep := fun e e' r1 r2 h1 h2 hn y hy hy' => by
   rcases ft e y hy with q | ⟨q1, q⟩ <;> rcases ft e' y hy' with q' | ⟨q1', q'⟩
   ·exact h.rsep e e' r1 r2 h1 h2 hn y q q'
   ·exact hB.row e r1 h1 y q q'
   ·exact hB.row e' r2 h2 y q' q
   ·exact hn (q1.trans q1'.symm)
  rF := fun e r1 h1 y hy => by
   rcases ft e y hy with q | ⟨_, q⟩
   ·exact h.rF e r1 h1 y q
   ·exact hB.here y q
  rb := fun e r1 b x h1 h2 hy => by
   rcases ft e _ hy with q | ⟨_, q⟩
   ·exact h.rb e r1 b x h1 h2 q
   ·exact hB.box b x h2 q
  bsep := h.bsep, bF := h.bF, Fbd := h.Fbd, F0 := h.F0, lentR := h.lentR, lentB := h.lentB }
theorem Rep.take (h : Rep φ ρ st a w) {d : Nat} {r : Row} (hd : qL d st.rows = some r) : qI φ (ρ.off d) (st.dropRow d) w (ρ.ft d) where
 row := fun e r' he y hy hy' => by
  simp only [St.dropRow, wL] at he
  split at he
  ·cases he
  ·rename_i hn; exact h.rsep e d r' r he hd hn y hy hy'
 box := fun b x hx => by
  obtain ⟨y, hy, _⟩ := qK hx
  exact h.rb d r b y hd hy
 here := fun y hy => h.rF d r hd y hy
theorem qI.dropRow {B : Nat -> Prop} (h : qI φ ρ st w B) (d : Nat) : qI φ (ρ.off d) (st.dropRow d) w B where
 row := fun e r' he y hy => by
  simp only [St.dropRow, wL] at he
  split at he
  ·cases he
  ·exact h.row e r' he y hy
 box := fun b x hx => by
  obtain ⟨y, hy, _⟩ := qK hx
  exact h.box b y hy
 here := h.here
theorem qI.low {B : Nat -> Prop} (h : qI φ ρ st w B) {ρ' : Env} {d : Nat} {r r' : Row} (hd : qL d st.rows = some r) (hft : ∀ e y, ρ'.ft e y -> ρ.ft e y) (hb : ρ'.blk = ρ.blk) (hF : ∀ y, ρ'.F y -> ρ.F y \/ ρ.ft d y) :
  qI φ ρ' { st with rows := put d r' st.rows } w B where
 row := fun e r1 he y hy hy' => by
  simp only [qP] at he
  split at he
  ·rename_i hh; subst hh; exact h.row e r hd y (hft _ _ hy) hy'
  ·exact h.row e r1 he y (hft _ _ hy) hy'
 box := fun b x hx => by rw [hb]; exact h.box b x hx
 here := fun y hy => ⟨fun hf => (hF y hf).elim (h.here y hy).1 fun hf => h.row d r hd y hf hy, (h.here y hy).2⟩
theorem qI.addF {B G : Nat -> Prop} (h : qI φ ρ st w B) (hG : ∀ y, B y -> ¬ G y) : qI φ (ρ.addF G) st w B :=
 ⟨h.row, h.box, fun y hy => ⟨fun hf => hf.elim (h.here y hy).1 (hG y hy), (h.here y hy).2⟩⟩
theorem qG7 {ρ0 : Env} (h : Rep φ ρ st a w) (hs : ρ0.Sim ρ) {c c' : CV} {v : Value} {m : Nat} {st' : St} (hc : CVR ρ0 w c v) (he : qAB st c = some (c', m, st')) :
  ∃ ρ' B, Rep φ ρ' st' a w /\ OC ρ'.F w m c' B v /\ qI φ ρ' st' w B /\ ρ.Sim ρ' /\ ∀ B0, qI φ ρ st w B0 -> qI φ ρ' st' w B0 /\ ∀ y, B0 y -> ¬ B y := by
 have same : ∀ {c' : CV} {m : Nat}, OC ρ.F w m c' (fun _ => False) v -> ∃ ρ' B, Rep φ ρ' st a w /\ OC ρ'.F w m c' B v /\ qI φ ρ' st w B /\ ρ.Sim ρ' /\ ∀ B0, qI φ ρ st w B0 -> qI φ ρ' st w B0 /\ ∀ y, B0 y -> ¬ B y :=
  fun ho => ⟨ρ, _, h, ho, qI.none φ ρ st w, Env.Sim.refl ρ, fun B0 hB => ⟨hB, fun _ _ h => h⟩⟩
 cases c with
 | own d =>
  simp only [qAB] at he
  split at he
  ·rename_i r hr
   simp only [Option.some.injEq, Prod.mk.injEq] at he
   obtain ⟨rfl, rfl, rfl⟩ := he
   have hd := qM hr
   refine ⟨ρ.off d, ρ.ft d, h.dropRow d, ?_, h.take hd, ⟨fun _ h => h, rfl, rfl, rfl, fun _ _ h => h⟩, fun B0 hB => ⟨hB.dropRow d, fun y hy hy' => hB.row d r hd y hy' hy⟩⟩
   have : v = ρ.val d := by rw [hs.val]; exact hc.1
   rw [this]
   exact zJ.whole (qN hr) (h.rows d r hd).2.2.1
  ·cases he
 | vw d lo hi =>
  simp only [qAB] at he
  split at he
  ·rename_i r hr
   simp only [Option.some.injEq, Prod.mk.injEq] at he
   obtain ⟨rfl, rfl, rfl⟩ := he
   have hd := qM hr
   obtain ⟨ρ', l1, f1, n1, c1, s1, h1⟩ := h.lowRow hd (qN hr) (k := 0) (Nat.zero_le _)
   refine ⟨ρ', fun _ => False, h1, ?_, qI.none _ _ _ _, ⟨l1.F, l1.val, l1.ty, l1.blk, f1⟩, fun B0 hB => ⟨hB.low hd f1 l1.blk n1, fun _ _ h => h⟩⟩
   have hrd := h1.rowRd (d := d) (r := { r with m := 0 }) (by rw [qP, if_pos rfl]) (show r.hole = none from qN hr)
   obtain ⟨a', n, c', b', e1, h2, h3, _, e2, e3⟩ := (hc : zQ ρ0 w (.vw d lo hi) v)
   rw [l1.val, hs.val, e1] at hrd
   obtain ⟨a2, c2, e4, _⟩ := id hrd
   simp only [Value.slice.injEq] at e4
   obtain ⟨_, rfl, _⟩ := e4
   have hty : ρ0.ty d = r.t := by rw [<- hs.ty]; exact (h.rows d r hd).2.1
   rw [hty] at e3
   have := qDc hrd h2 h3 e3
   show qJ _ _ _ 0 _ _ _
   rw [qJ, kB, e2]
   refine ⟨_, rfl, vX (fun y hy => ?_) (qC.refl _ _) this⟩
   exact hy.elim id fun hy => s1 y (f1 _ _ hy) (.inl rfl)
  ·cases he
 | nref d i off =>
  simp only [qAB] at he
  split at he
  ·rename_i r hr
   split at he
   ·rename_i s hsl
    simp only [Option.some.injEq, Prod.mk.injEq] at he
    obtain ⟨rfl, rfl, rfl⟩ := he
    have hd := qM hr
    obtain ⟨ρ', l1, f1, n1, c1, s1, h1⟩ := h.lowRow hd (qN hr) (k := Nat.min r.m 1) (Nat.min_le_left _ _)
    refine ⟨ρ', fun _ => False, h1, ?_, qI.none _ _ _ _, ⟨l1.F, l1.val, l1.ty, l1.blk, f1⟩, fun B0 hB => ⟨hB.low hd f1 l1.blk n1, fun _ _ h => h⟩⟩
    obtain ⟨⟨_, b, n, c', e1, hi, e2⟩, _⟩ := (hc : zQ ρ0 w (.nref d i off) v)
    obtain ⟨hi', cs, g1, g2⟩ := h1.rowRd2 (d := d) (r := { r with m := Nat.min r.m 1 }) (by rw [qP, if_pos rfl]) (show r.hole = none from qN hr) (Nat.min_le_right _ _) (by rw [l1.val, hs.val]; exact e1) hi
    obtain ⟨e, u, l⟩ := s
    rw [wQ hi'] at hsl
    obtain ⟨v', k1, k2⟩ := qI6 hsl g2
    have hv : v' = v := by
     obtain ⟨hlt, k1⟩ := List.getElem?_eq_some_iff.1 k1
     have := g1 off hlt
     have hty : ρ0.ty d = r.t := by rw [<- hs.ty]; exact (h.rows d r hd).2.1
     rw [hty, this, k1] at e2
     simpa using e2
    subst hv
    show qJ _ _ _ 0 _ _ _
    rw [qJ, kB]
    exact ⟨_, rfl, k2⟩
   ·cases he
  ·cases he
 | dat e t l =>
  simp only [qAB, Option.some.injEq, Prod.mk.injEq] at he
  obtain ⟨rfl, rfl, rfl⟩ := he
  refine same ?_
  show qJ _ _ _ 0 _ _ _
  rw [qJ, kB]
  exact ⟨_, rfl, vX hs.F (qC.refl _ _) hc⟩
 | pdat e t x o =>
  simp only [qAB, Option.some.injEq, Prod.mk.injEq] at he
  obtain ⟨rfl, rfl, rfl⟩ := he
  exact same (qGQ hs.F (qC.refl _ _) (show DC ρ0.F w (.pdat e t x o) v from hc))
 | emp e t =>
  simp only [qAB, Option.some.injEq, Prod.mk.injEq] at he
  obtain ⟨rfl, rfl, rfl⟩ := he
  obtain ⟨b, rfl⟩ := (hc : zQ ρ0 w (.emp e t) v)
  refine same ?_
  show qJ _ _ _ (98 + 1) _ _ _
  rw [qJ]
  exact ⟨_, rfl, b, 0, rfl, .inl ⟨rfl, rfl⟩⟩
 | int k n => simp only [qAB, Option.some.injEq, Prod.mk.injEq] at he; obtain ⟨rfl, rfl, rfl⟩ := he; exact same hc
 | bool b => simp only [qAB, Option.some.injEq, Prod.mk.injEq] at he; obtain ⟨rfl, rfl, rfl⟩ := he; exact same hc
 | str s => simp only [qAB, Option.some.injEq, Prod.mk.injEq] at he; obtain ⟨rfl, rfl, rfl⟩ := he; exact same hc
 | _ => simp [qAB] at he
theorem qGa {ρ0 : Env} : ∀ {cs cs' : List CV} {vs : List Value} {m : Nat} {ρ : Env} {st st' : St}, Rep φ ρ st a w -> ρ0.Sim ρ -> jC (CVR ρ0 w) cs vs -> qLz st cs = some (cs', m, st') ->
  ∃ ρ' B, Rep φ ρ' st' a w /\ OCs ρ'.F w m cs' B vs /\ qI φ ρ' st' w B /\ ρ.Sim ρ' /\ ∀ B0, qI φ ρ st w B0 -> qI φ ρ' st' w B0 /\ ∀ y, B0 y -> ¬ B y
 | [], cs', [], m, ρ, st, st', h, hs, _, he => by
  simp only [qLz, Option.some.injEq, Prod.mk.injEq] at he
  obtain ⟨rfl, rfl, rfl⟩ := he
  exact ⟨ρ, fun _ => False, h, trivial, qI.none φ ρ st w, Env.Sim.refl ρ, fun B0 hB => ⟨hB, fun _ _ h => h⟩⟩
 | c :: cs, cs', v :: vs, m, ρ, st, st', h, hs, ha, he => by
  simp only [qLz] at he
  split at he
  ·rename_i y m1 st1 h1
   split at he
   ·rename_i ys m2 st2 h2
    simp only [Option.some.injEq, Prod.mk.injEq] at he
    obtain ⟨rfl, rfl, rfl⟩ := he
    obtain ⟨ρ1, B1, r1, o1, p1, s1, k1⟩ := qG7 h hs ha.1 h1
    obtain ⟨ρ2, B2, r2, o2, p2, s2, k2⟩ := qGa r1 (hs.trans s1) ha.2 h2
    obtain ⟨p3, d3⟩ := k2 B1 p1
    obtain ⟨C1, c1, o3⟩ := qKC (k := Nat.min m1 m2) (Nat.min_le_left _ _) (qEK s2.F (qC.refl _ w) (qC.refl _ w) o1)
    obtain ⟨C2, c2, o4⟩ := qCq (k := Nat.min m1 m2) (Nat.min_le_right _ _) o2
    have hG : qI φ ρ2 st2 w fun y => (B1 y /\ ¬ C1 y) \/ (B2 y /\ ¬ C2 y) := (p3.sub fun y hy => hy.1).or (p2.sub fun y hy => hy.1)
    refine ⟨ρ2.addF fun y => (B1 y /\ ¬ C1 y) \/ (B2 y /\ ¬ C2 y), fun y => C1 y \/ C2 y, r2.addF hG, ?_, ?_, (s1.trans s2).trans (ρ2.addF_sim _), fun B0 hB => ?_⟩
    ·refine ⟨C1, C2, fun y hy => ⟨.inl hy, fun hy' => d3 y (c1 y hy) (c2 y hy')⟩, fun y hy => .inr hy, ?_, ?_⟩
     ·exact qEK (fun y hy => hy.elim .inl fun hy => .inr (.inl hy)) (qC.refl _ _) (qC.refl _ _) o3
     ·exact qAn (fun y hy => hy.elim .inl fun hy => .inr (.inr hy)) (qC.refl _ _) (qC.refl _ _) o4
    ·refine qI.addF ((p3.sub c1).or (p2.sub c2)) fun y hy hg => ?_
     rcases hy with hy | hy <;> rcases hg with hg | hg
     ·exact hg.2 hy
     ·exact d3 y (c1 y hy) hg.1
     ·exact d3 y hg.1 (c2 y hy)
     ·exact hg.2 hy
    ·obtain ⟨q1, q2⟩ := k1 B0 hB
     obtain ⟨q3, q4⟩ := k2 B0 q1
     refine ⟨q3.addF fun y hy hg => ?_, fun y hy hg => ?_⟩
     ·rcases hg with hg | hg
      ·exact q2 y hy hg.1
      ·exact q4 y hy hg.1
     ·rcases hg with hg | hg
      ·exact q2 y hy (c1 y hg)
      ·exact q4 y hy (c2 y hg)
   ·cases he
  ·cases he
end
theorem qAo {F : Nat -> Prop} {w : World} {n : Nat} : ∀ {cs ds : List CV} {B C : Nat -> Prop} {vs us : List Value}, OCs F w n cs B vs -> OCs F w n ds C us -> (∀ y, B y -> ¬ C y) -> OCs F w n (cs ++ ds) (fun y => B y \/ C y) (vs ++ us)
 | [], ds, B, C, [], us, _, h, _ => qH3 (fun y hy => .inr hy) h
 | c :: cs, ds, B, C, v :: vs, us, h, h', hd => by
  obtain ⟨B1, B2, h1, h2, h3, h4⟩ := h
  refine ⟨B1, fun y => B2 y \/ C y, fun y hy => ⟨.inl (h1 y hy).1, fun hh => hh.elim (h1 y hy).2 (hd y (h1 y hy).1)⟩, fun y hy => hy.imp (h2 y) id, h3, qAo h4 h' fun y hy => hd y (h2 y hy)⟩
theorem qBl {F : Nat -> Prop} {w : World} {n : Nat} : ∀ (k : Nat) {cs : List CV} {B : Nat -> Prop} {vs : List Value}, OCs F w n cs B vs ->
  ∃ B1 B2, (∀ y, B1 y -> B y /\ ¬ B2 y) /\ (∀ y, B2 y -> B y) /\ OCs F w n (cs.take k) B1 (vs.take k) /\ OCs F w n (cs.drop k) B2 (vs.drop k)
 | 0, cs, B, vs, h => ⟨fun _ => False, B, fun _ h => h.elim, fun _ h => h, by simp [OCs], by simpa using h⟩
 | k + 1, [], B, [], h => ⟨fun _ => False, fun _ => False, fun _ h => h.elim, fun _ h => h.elim, by simp [OCs], by simp [OCs]⟩
 | k + 1, c :: cs, B, v :: vs, h => by
  obtain ⟨B1, B2, h1, h2, h3, h4⟩ := h
  obtain ⟨C1, C2, g1, g2, g3, g4⟩ := qBl k h4
  refine ⟨fun y => B1 y \/ C1 y, C2, fun y hy => ?_, fun y hy => h2 y (g2 y hy), ⟨B1, C1, fun y hy => ⟨.inl hy, fun hc => (h1 y hy).2 (g1 y hc).1⟩, fun y hy => .inr hy, h3, g3⟩, g4⟩
  rcases hy with hy | hy
  ·exact ⟨(h1 y hy).1, fun hc => (h1 y hy).2 (g2 y hc)⟩
  ·exact ⟨h2 y (g1 y hy).1, (g1 y hy).2⟩
theorem qH2 {F : Nat -> Prop} {w : World} {n : Nat} : ∀ {t : Ty} {x : t.T} {B : Nat -> Prop} {vs : List Value}, qJ F w t n x B vs -> OCs F w n (t.cells x) B vs := by
 intro t
 have one : ∀ {c : CV} {B : Nat -> Prop} {v : Value}, OC F w n c B v -> OCs F w n [c] B [v] := fun h => ⟨_, fun _ => False, fun y hy => ⟨hy, fun h => h⟩, fun _ h => h.elim, h, trivial⟩
 induction t with
 | int k => intro x B vs h; rw [qJ] at h; subst h; exact one rfl
 | bool => intro x B vs h; rw [qJ] at h; subst h; exact one rfl
 | str => intro x B vs h; rw [qJ] at h; subst h; exact one rfl
 | unit => intro x B vs h; rw [qJ] at h; subst h; exact trivial
 | prod a b iha ihb =>
  intro x B vs h
  rw [qJ] at h
  obtain ⟨v1, v2, B1, B2, rfl, d1, d2, h1, h2⟩ := h
  exact qH3 (fun y hy => hy.elim (fun hy => (d1 y hy).1) (d2 y)) (qAo (iha h1) (ihb h2) fun y hy => (d1 y hy).2)
 | ptr e t _ =>
  intro x B vs h
  rw [qJ, Rd] at h
  obtain ⟨b, off, cs, rfl, h1, h2, h3⟩ := h
  exact one ⟨b, off, cs, rfl, h1, h2, h3⟩
 | sl e t _ =>
  intro x B vs h
  have hl := jB h
  match vs, hl with
  | [v], _ => exact one h
theorem qAV {F : Nat -> Prop} {w : World} {n : Nat} {t : Ty} {x x' : t.T} {off : Nat} {cs : List CV} {B C : Nat -> Prop} {vs us : List Value} (h : qJ F w t n x B vs) (hs : OCs F w n cs C us) (hd : ∀ y, C y -> ¬ B y)
  (he : t.setCells x off cs = some x') : qJ F w t n x' (fun y => B y \/ C y) (vs.take off ++ us ++ vs.drop (off + cs.length)) := by
 have h0 := qH2 h
 obtain ⟨B1, B2, h1, h2, h3, h4⟩ := qBl off h0
 obtain ⟨B3, B4, h5, h6, h7, h8⟩ := qBl (off + cs.length) h0
 obtain ⟨B5, B6, g1, g2, g3, g4⟩ := qBl cs.length h4
 rw [List.drop_drop, List.drop_drop] at g4
 have q := qAo (qAo h3 hs fun y hy hc => hd y hc (h1 y hy).1) g4 (by
  intro y hy hb
  rcases hy with hy | hy
  ·exact (h1 y hy).2 (g2 y hb)
  ·exact hd y hy (h2 y (g2 y hb)))
 unfold Ty.setCells at he
 have := qBA he q
 exact zP (fun y hy => by
  rcases hy with (hy | hy) | hy
  ·exact .inl (h1 y hy).1
  ·exact .inr hy
  ·exact .inl (h2 y (g2 y hy))) this
theorem qEI {F : Nat -> Prop} {w w' : World} {e : TypeId} {t : Ty} {M : Nat} {l : List t.T} {B C : Nat -> Prop} {v : Value} {b c i : Nat} {x : t.T} (h : qJ F w (.sl e t) (M + 1) l B [v]) (hv : xP v b l.length c) (hi : i < l.length)
  (harr : ∀ arr fr, w.heap[b]? = some (.cells arr e fr) -> ∃ arr', w'.heap[b]? = some (.cells arr' e fr) /\ arr'.size = arr.size /\ ∀ k, (k < i * t.sz \/ (i + 1) * t.sz <= k) -> arr'[k]? = arr[k]?)
  (hx : ∀ Bi vs, (∀ y, Bi y -> B y /\ y ≠ b) -> qV w b (i * t.sz) vs -> qJ F w t M l[i] Bi vs -> ∃ vs', qV w' b (i * t.sz) vs' /\ qJ F w' t M x (fun y => Bi y \/ C y) vs' /\ ∀ S : Nat -> Prop, (∀ y, S y -> ¬ Bi y /\ y ≠ b) -> qC S w w')
  (hF : ∀ y, F y -> ¬ B y) (hC : ∀ y, C y -> ¬ B y) : qJ F w' (.sl e t) (M + 1) (l.set i x) (fun y => B y \/ C y) [v] := by
 rw [qJ] at h ⊢
 obtain ⟨v', e1, a, k, hv', hh⟩ := h
 simp only [List.cons.injEq, and_true] at e1
 subst e1
 refine ⟨v, rfl, a, k, by rw [List.length_set]; exact hv', .inr ?_⟩
 rcases hh with ⟨h0, _⟩ | ⟨b', arr, fr, h1, h2, h3, h4, h5, h6, Bs, h7, h8, h9⟩
 ·rw [h0] at hi; simp at hi
 ·have hb : b' = b := by
   rw [hv', h1] at hv
   simp only [xP, Value.slice.injEq, Option.some.injEq, Addr.mk.injEq] at hv
   exact hv.1.1
  subst hb
  obtain ⟨arr', k1, k2, k3⟩ := harr arr fr h2
  obtain ⟨vs, g1, g2⟩ := h9 i hi
  obtain ⟨vs', q1, q2, q3⟩ := hx (Bs i) vs (fun y hy => h7 i y hi hy) g1 g2
  have aF : qC F w w' := q3 F fun y hy => ⟨fun hb => hF y hy (h7 i y hi hb).1, fun e => hF y hy (e ▸ h6)⟩
  refine ⟨b', arr', fr, h1, k1, by rw [k2]; exact h3, by rw [k2]; exact h4, by rw [List.length_set]; exact h5, .inl h6, fun j y => Bs j y \/ (j = i /\ C y), ?_, ?_, ?_⟩
  ·intro j y hj hy
   rw [List.length_set] at hj
   rcases hy with hy | ⟨rfl, hy⟩
   ·exact ⟨.inl (h7 j y hj hy).1, (h7 j y hj hy).2⟩
   ·exact ⟨.inr hy, fun e => hC y hy (e ▸ h6)⟩
  ·intro j1 j2 y hj1 hj2 hy1 hy2
   rw [List.length_set] at hj1 hj2
   rcases hy1 with hy1 | ⟨q1, hy1⟩ <;> rcases hy2 with hy2 | ⟨q2, hy2⟩
   ·exact h8 j1 j2 y hj1 hj2 hy1 hy2
   ·exact absurd (h7 j1 y hj1 hy1).1 (hC y hy2)
   ·exact absurd (h7 j2 y hj2 hy2).1 (hC y hy1)
   ·rw [q1, q2]
  ·intro j hj
   rw [List.length_set] at hj
   by_cases hji : j = i
   ·subst hji
    refine ⟨vs', q1, ?_⟩
    rw [List.getElem_set_self]
    exact zP (fun y hy => hy.imp id fun hy => ⟨rfl, hy⟩) q2
   ·obtain ⟨us, p1, p2⟩ := h9 j hj
    refine ⟨us, fun m hm => ?_, ?_⟩
    ·have hl := jB p2
     have hpm := p1 m hm
     rw [jV] at hpm ⊢
     obtain ⟨cs, e', fr', r1, r2⟩ := hpm
     rw [h2] at r1
     simp only [Option.some.injEq, Obj.cells.injEq] at r1
     obtain ⟨rfl, rfl, rfl⟩ := r1
     refine ⟨arr', e, fr, k1, ?_⟩
     rw [k3]
     ·exact r2
     ·rcases Nat.lt_or_gt_of_ne hji with hlt | hlt
      ·left
       have : (j + 1) * t.sz <= i * t.sz := Nat.mul_le_mul_right _ hlt
       rw [Nat.add_mul] at this
       omega
      ·right
       have : (i + 1) * t.sz <= j * t.sz := Nat.mul_le_mul_right _ hlt
       omega
    ·rw [List.getElem_set_ne (Ne.symm hji)]
     refine zP (fun y hy => .inl hy) (jA (fun _ h => h) aF (q3 (Bs j) fun y hy => ⟨fun hb => hji (h8 j i y hj hi hy hb), (h7 j y hj hy).2⟩) p2)
theorem qIa {F : Nat -> Prop} {w w' : World} (hF : qC F w w') : ∀ {t : Ty} {n : Nat} {x x' : t.T} {off : Nat} {e : TypeId} {u : Ty} {l l' : List u.T} {B : Nat -> Prop} {vs : List Value},
  t.slAt x off = some ⟨e, u, l⟩ -> t.slSet x off e u l' = some x' -> qJ F w t n x B vs ->
  (∀ (Bx : Nat -> Prop) v, vs[off]? = some v -> (∀ y, Bx y -> B y) -> qJ F w (.sl e u) n l Bx [v] -> qJ F w' (.sl e u) n l' Bx [v] /\ ∀ S : Nat -> Prop, (∀ y, S y -> ¬ Bx y) -> qC S w w') ->
  qJ F w' t n x' B vs /\ ∀ S : Nat -> Prop, (∀ y, S y -> ¬ B y) -> qC S w w' := by
 intro t
 induction t with
 | prod a b iha ihb =>
  intro n x x' off e u l l' B vs hat hset h hx
  rw [qJ] at h
  obtain ⟨v1, v2, B1, B2, rfl, d1, d2, h1, h2⟩ := h
  have hl := jB h1
  simp only [Ty.slAt] at hat
  simp only [Ty.slSet] at hset
  by_cases ho : off < a.sz
  ·rw [if_pos ho] at hat hset
   cases hr : a.slSet x.1 off e u l' with
   | none => simp [hr] at hset
   | some x1 =>
    simp only [hr, Option.map_some, Option.some.injEq] at hset
    subst hset
    obtain ⟨g1, g2⟩ := iha hat hr h1 fun Bx v hv hB ho' => hx Bx v (by rw [List.getElem?_append_left (by omega)]; exact hv) (fun y hy => (d1 y (hB y hy)).1) ho'
    refine ⟨?_, fun S hS => g2 S fun y hy hb => hS y hy (d1 y hb).1⟩
    rw [qJ]
    exact ⟨v1, v2, B1, B2, rfl, d1, d2, g1, jA (fun _ h => h) hF (g2 B2 fun y hy hb => (d1 y hb).2 hy) h2⟩
  ·rw [if_neg ho] at hat hset
   cases hr : b.slSet x.2 (off - a.sz) e u l' with
   | none => simp [hr] at hset
   | some x2 =>
    simp only [hr, Option.map_some, Option.some.injEq] at hset
    subst hset
    obtain ⟨g1, g2⟩ := ihb hat hr h2 fun Bx v hv hB ho' => hx Bx v (by rw [List.getElem?_append_right (by omega), hl]; exact hv) (fun y hy => d2 y (hB y hy)) ho'
    refine ⟨?_, fun S hS => g2 S fun y hy hb => hS y hy (d2 y hb)⟩
    rw [qJ]
    exact ⟨v1, v2, B1, B2, rfl, d1, d2, jA (fun _ h => h) hF (g2 B1 fun y hy hb => (d1 y hy).2 hb) h1, g1⟩
 | sl e0 t0 _ =>
  intro n x x' off e u l l' B vs hat hset h hx
  simp only [Ty.slAt] at hat
  split at hat
  ·rename_i h0
   simp only [Option.some.injEq, Sigma.mk.injEq] at hat
   obtain ⟨rfl, hat⟩ := hat
   obtain ⟨rfl, hat⟩ := (Sigma.mk.injEq ..).mp (eq_of_heq hat)
   obtain rfl := eq_of_heq hat
   simp only [Ty.slSet, h0, true_and, if_true] at hset
   simp only [dite_true, Option.some.injEq] at hset
   have hlen := jB h
   match vs, hlen with
   | [v], _ =>
    obtain ⟨g1, g2⟩ := hx B v (by rw [h0]; rfl) (fun _ h => h) h
    refine ⟨?_, g2⟩
    rw [<- hset]
    exact g1
  ·cases hat
 | _ => intro n x x' off e u l l' B vs hat; simp [Ty.slAt] at hat
theorem qGe {α : Type} (k : Nat) (x y : α) : ∀ l : List (Nat × α), put k x (put k y l) = put k x l
 | [] => by simp [put]
 | (j, z) :: l => by
  simp only [put]
  split
  ·simp [put]
  ·split
   ·simp [put]
   ·rename_i h1 h2
    simp only [put, if_neg h1, if_neg h2, qGe k x y l]
theorem yG {α : Type} (A B C : List α) (k : Nat) : (A ++ B ++ C)[k]? = if k < A.length then A[k]? else if k < A.length + B.length then B[k - A.length]? else C[k - (A.length + B.length)]? := by
 by_cases h1 : k < A.length
 ·rw [if_pos h1, List.append_assoc, List.getElem?_append_left h1]
 ·rw [if_neg h1]
  by_cases h2 : k < A.length + B.length
  ·rw [if_pos h2, List.append_assoc, List.getElem?_append_right (by omega), List.getElem?_append_left (by omega)]
  ·rw [if_neg h2, List.getElem?_append_right (by simp; omega), List.length_append]
section
variable {φ : Fix} {ρ : Env} {st : St} {a : Act} {w : World} {P : Program} {C : Ctx}
def qDa (P : Program) (φ : Fix) (s : Sem Unit) (a : Act) (w : World) (st : St) : Prop := ∃ ρ w', s.run P w = .ok () w' /\ Rep φ ρ st a w'
theorem qDa.did {o : Oper} {s : Sem Unit} (he : execOp a.eval o = (do s; pure .skip)) (h : qDa P φ s a w st) : Did P φ o a w st .undef := by
 obtain ⟨ρ, w', h1, h2⟩ := h
 exact Did.of_unit he h1 h2 rfl
theorem wI (hC : jK P C) {t : TypeId} {g : Bool} {n : Nat} (hs : qCv C t = some (g, n)) {b off : Nat} {v : Value} {arr : Array Value} {e : TypeId} {fr : Nat × Nat} (hb : w.heap[b]? = some (.cells arr e fr))
  (hf : qBq arr.size fr) (hv : v.cells.size = n) (hl : off + n <= arr.size) (h1 : ∀ u, u ∈ v.cells.toList -> u.oneCell' = true) : ∃ w', (Instr.storeAt t (.pointer (some ⟨b, off, none⟩)) v).run P w = .ok () w' /\
   w'.heap.size = w.heap.size /\ zD w w' /\ (∀ y, y ≠ b -> w'.heap[y]? = w.heap[y]?) /\
   w'.heap[b]? = some (.cells (arr.toList.take off ++ v.cells.toList ++ arr.toList.drop (off + n)).toArray e fr) := by
 obtain ⟨i, hi, _, rfl⟩ := qD2 hs
 obtain ⟨w', g1, g⟩ := qCD hC hi (off := off) hb hf hv hl h1
 refine ⟨w', ?_, g⟩
 simp only [Instr.storeAt, Instr.sureAddr, Sem.run_bind, Sem.run_pure, Result.andThen_ok]
 exact g1
theorem qF9 (hC : jK P C) (h : Rep φ ρ st a w) {t : TypeId} {g : Bool} {n : Nat} (hs : qCv C t = some (g, n)) {b off : Nat} {x : Box} (hx0 : st.box? b = some x) (hro : x.ro = false) {cs cs' : List CV} {u : Value}
  (hu : jC (CVR ρ w) cs u.cells.toList) (hn : cs.length = n) (hset : qNy off x.cs cs = some cs') :
  qDa P φ (Instr.storeAt t (.pointer (some ⟨ρ.blk b, off, none⟩)) u) a w { st with boxes := put b { x with cs := cs' } st.boxes } := by
 obtain ⟨arr, fr, h1, h2, h3⟩ := h.cellsBox hx0
 have hx := (wU hx0).1
 unfold qNy at hset
 split at hset
 ·rename_i hle
  simp only [Option.some.injEq] at hset
  have e1 : arr.size = x.cs.length := by have := h3.length; simp only [Array.length_toList] at this; omega
  have e2 : u.cells.size = n := by have := hu.length; simp only [Array.length_toList] at this; omega
  obtain ⟨w', g1, g2, g3, g4, g5⟩ := wI hC hs (off := off) h1 h2 e2 (by omega) (qBp hu)
  refine ⟨ρ, w', g1, ?_⟩
  refine h.putBox (x := { x with cs := cs' }) (fr := fr) (by rw [g2]; exact Nat.le_refl _) g3 (fun y _ hy => g4 y hy) ((h.bF b x hx).1 hro) (fun d r hd => h.rb d r b x hd hx)
   (fun b' x' hb' hne => h.bsep b' b x' x hb' hx hne) (h.bF b x hx).2 (xK.of g5 (wU hx0).2) ?_ ?_
  ·refine ⟨h2.1, fun o ho => ?_⟩
   have : o < arr.size := by
    simp only [List.size_toArray, List.length_append, List.length_take, List.length_drop, Array.length_toList] at ho
    omega
   exact h2.2 o this
  ·show jC (CVR ρ w) cs' _
   rw [<- hset, <- hn]
   exact ((h3.take off).append hu).append (h3.drop _)
 ·cases hset
theorem qMu (ρ : Env) (d : Nat) : (ρ.setRow d (ρ.val d) (ρ.ty d) (ρ.ft d)).val = ρ.val := by
 funext i; simp only [Env.setRow]; split
 ·rename_i h; rw [h]
 ·rfl
theorem qF8 (hC : jK P C) (h : Rep φ ρ st a w) {t : TypeId} {g : Bool} {n : Nat} (hs : qCv C t = some (g, n)) {d i off : Nat} {p u : Value} {cs cs' : List CV} {m : Nat} {st' : St} {r' : Row} {x : r'.t.T}
  (hp : zQ ρ w (.pelt d i off) p) (hu : jC (CVR ρ w) cs u.cells.toList) (hn : cs.length = n) (hn0 : n ≠ 0) (hsink : qLz st cs = some (cs', m, st')) (hd' : st'.row? d = some r') (hm : r'.m ≠ 0)
  (hset : r'.t.setCells (nth r'.t r'.l i) off cs' = some x) :
  qDa P φ (Instr.storeAt t p u) a w { st'.kill (CV.nested d) with rows := put d { r' with l := r'.l.set i x, m := Nat.min r'.m (m + 1) } (st'.kill (CV.nested d)).rows } := by
 obtain ⟨ρ1, B, r1, o1, p1, s1, _⟩ := qGa h (Env.Sim.refl ρ) hu hsink
 have hd1 := qM hd'
 obtain ⟨M, hM⟩ : ∃ M, Nat.min r'.m (m + 1) = M + 1 := ⟨Nat.min r'.m (m + 1) - 1, by have : 0 < Nat.min r'.m (m + 1) := Nat.lt_min.2 ⟨by omega, by omega⟩; omega⟩
 have hMm : M <= m := by have : Nat.min r'.m (m + 1) <= m + 1 := Nat.min_le_right _ _; omega
 obtain ⟨ρ2, l2, f2, n2, c2, _, r2⟩ := r1.lowRow hd1 (qN hd') (k := Nat.min r'.m (m + 1)) (Nat.min_le_left _ _)
 have p2 := p1.low (r' := { r' with m := Nat.min r'.m (m + 1) }) hd1 f2 l2.blk n2
 obtain ⟨K, k1, o3⟩ := qCq hMm (qAn l2.F (qC.refl _ w) (qC.refl _ w) o1)
 have r3 := r2.addF (p2.sub (B' := fun y => B y /\ ¬ K y) fun y hy => hy.1)
 have p3 := (p2.sub k1).addF (G := fun y => B y /\ ¬ K y) fun y hy hg => hg.2 hy
 have look2 : qL d (put d { r' with m := Nat.min r'.m (m + 1) } st'.rows) = some { r' with m := Nat.min r'.m (m + 1) } := by rw [qP, if_pos rfl]
 have r4 := r3.widen look2 p3
 generalize hρ3 : ρ2.addF (fun y => B y /\ ¬ K y) = ρ3 at r3 p3 r4
 have hval : ρ3.val = ρ.val := by rw [<- hρ3]; exact l2.val.trans s1.val
 have hF3 : ∀ y, ρ2.F y \/ (B y /\ ¬ K y) -> ρ3.F y := fun y hy => by rw [<- hρ3]; exact hy
 have htyd : ρ.ty d = r'.t := by
  have := (r1.rows d r' hd1).2.1
  rw [s1.ty] at this; exact this
 obtain ⟨b, n', c', e1, hi, e2⟩ := hp
 rw [htyd] at e2
 subst e2
 have ho := zJ.whole (r := { r' with m := Nat.min r'.m (m + 1) }) (show r'.hole = none from qN hd') (r3.rows d _ look2).2.2.1
 simp only [hM] at ho
 have hval' : ρ3.val d = ρ.val d := by rw [hval]
 obtain ⟨bb, cc, ev, _, _⟩ := r3.rowVal look2 (Row.notMap (show r'.hole = none from qN hd'))
 have hl : xP (ρ3.val d) b r'.l.length c' := by
  rw [hval', e1] at ev ⊢
  simp only [Value.slice.injEq] at ev
  rw [ev.2.1]; rfl
 have hi' : i < r'.l.length := by
  rw [hval', e1] at ev
  simp only [Value.slice.injEq] at ev
  rw [<- ev.2.1]; exact hi
 obtain ⟨arr, fr, hb, hfr, hcap, hbB⟩ : ∃ arr fr, w.heap[b]? = some (.cells arr r'.e fr) /\ qBq arr.size fr /\ (i + 1) * r'.t.sz <= arr.size /\ ρ3.ft d b := by
  rw [qJ] at ho
  obtain ⟨v', q1, a', k, q2, ⟨q3, _⟩ | ⟨b', arr, fr, q3, q4, q5, q6, q7, q8, _⟩⟩ := ho
  ·rw [q3] at hi'; simp at hi'
  ·simp only [List.cons.injEq, and_true] at q1
   rw [<- q1, hl] at q2
   simp only [Value.slice.injEq] at q2
   rw [q3] at q2
   simp only [Option.some.injEq, Addr.mk.injEq] at q2
   obtain ⟨⟨rfl, _⟩, _, rfl⟩ := q2
   exact ⟨arr, fr, q4, q5, Nat.le_trans (Nat.mul_le_mul_right _ (by omega)) q6, q8⟩
 have hlen : cs'.length = u.cells.size := by have := qGP o1; simpa using this
 have hun : u.cells.size = n := by have := hu.length; simp only [Array.length_toList] at this; omega
 have hrowlen : ∀ vs : List Value, qV w b (i * r'.t.sz) vs -> vs.length = r'.t.sz -> off + n <= r'.t.sz -> True := fun _ _ _ _ => trivial
 have hoff : off + n <= r'.t.sz := by
  unfold Ty.setCells at hset
  obtain ⟨hi2, vs, B', g1, _, _, g2⟩ := r3.rowElt look2 (show r'.hole = none from qN hd') (m := M) hM hl hi'
  have hcells := qGP (qH2 g2)
  have hl2 := jB g2
  have h5 := qAV g2 (C := K) (us := u.cells.toList) (cs := cs') (off := off) (qAn (fun y hy => hF3 y (hy.imp id id)) (qC.refl _ w) (qC.refl _ w) o3) (fun y hy hb => p3.row d _ look2 y (by rename_i q; exact (q y hb).1) hy)
   (by unfold Ty.setCells; rw [wQ hi2] at hset; exact hset)
  have h6 := jB h5
  simp only [List.length_append, List.length_take, List.length_drop, Array.length_toList, hlen] at h6
  rw [hl2] at h6
  show off + n <= _
  simp only at h6 hl2 ⊢
  omega
 have hle : (i * r'.t.sz + off) + n <= arr.size := by
  rw [Nat.add_mul] at hcap; omega
 obtain ⟨w', g1, g2, g3, g4, g5⟩ := wI (P := P) hC hs (off := i * r'.t.sz + off) hb hfr hun hle (qBp hu)
 have hnew : qJ ρ3.F w' (.sl r'.e r'.t) (M + 1) (r'.l.set i x) (fun y => ρ3.ft d y \/ K y) [ρ3.val d] := by
  refine qEI ho hl hi' ?_ ?_ (fun y hf hb => (r3.rF d _ look2 y hb).1 hf) (fun y hy hb => p3.row d _ look2 y hb hy)
  ·intro arr0 fr0 hb0
   rw [hb] at hb0
   simp only [Option.some.injEq, Obj.cells.injEq] at hb0
   obtain ⟨rfl, _, rfl⟩ := hb0
   refine ⟨_, g5, by simp [hun]; omega, fun k hk => ?_⟩
   simp only [List.getElem?_toArray]
   rw [<- hun, <- Array.length_toList]
   have e9 : (i + 1) * r'.t.sz = i * r'.t.sz + r'.t.sz := by rw [Nat.add_mul]; omega
   rcases hk with hk | hk
   ·rw [List.append_assoc, List.getElem?_append_left (by simp; omega), List.getElem?_take_of_lt (by omega)]
    simp
   ·rw [List.getElem?_append_right (by simp [hun]; omega), List.getElem?_drop]
    simp only [List.length_append, List.length_take, Array.length_toList, hun]
    rw [show i * r'.t.sz + off + n + (k - (min (i * r'.t.sz + off) arr.size + n)) = k by omega]
    simp
  ·intro Bi vs hBi hc ho'
   have hl2 := jB ho'
   refine ⟨vs.take off ++ u.cells.toList ++ vs.drop (off + n), ?_, ?_, ?_⟩
   ·intro j hj
    rw [jV]
    refine ⟨_, _, _, g5, ?_⟩
    simp only [List.length_append, List.length_take, List.length_drop, Array.length_toList, hun, hl2] at hj
    have hjs : j < r'.t.sz := by omega
    have old : ∀ j, j < vs.length -> arr[i * r'.t.sz + j]? = vs[j]? := fun j hj => by
     have := hc j hj
     rw [jV] at this
     obtain ⟨arr0, e0, fr0, q1, q2⟩ := this
     rw [hb] at q1
     simp only [Option.some.injEq, Obj.cells.injEq] at q1
     obtain ⟨rfl, _, _⟩ := q1
     rw [q2, List.getElem?_eq_getElem hj]
    rw [<- List.getElem?_eq_getElem (by simp [hun, hl2]; omega)]
    simp only [List.getElem?_toArray]
    rw [yG, yG]
    simp only [List.length_take, Array.length_toList, hun, hl2]
    have m1 : min (i * r'.t.sz + off) arr.size = i * r'.t.sz + off := by omega
    have m2 : min off r'.t.sz = off := by omega
    rw [m1, m2]
    by_cases h1 : j < off
    ·rw [if_pos (by omega), if_pos h1, List.getElem?_take_of_lt (by omega), List.getElem?_take_of_lt h1]
     have := old j (by omega)
     simpa using this
    ·rw [if_neg (by omega), if_neg h1]
     by_cases h2 : j < off + n
     ·rw [if_pos (by omega), if_pos h2]
      congr 1
      omega
     ·rw [if_neg (by omega), if_neg h2, List.getElem?_drop, List.getElem?_drop]
      have := old j (by omega)
      rw [show off + n + (j - (off + n)) = j by omega, show i * r'.t.sz + off + n + (i * r'.t.sz + j - (i * r'.t.sz + off + n)) = i * r'.t.sz + j by omega]
      simpa using this
   ·have agree : qC ρ3.F w w' := fun y o' hf hy => by rw [g4 y (by rintro rfl; exact (r3.rF d _ look2 _ hbB).1 hf)]; exact hy
    have h5 := qAV (x' := x) ho' (C := K) (us := u.cells.toList) (cs := cs') (off := off) (qAn (fun y hy => hF3 y (hy.imp id id)) (qC.refl _ w) (qC.refl _ w) o3) (fun y hy hb => p3.row d _ look2 y (hBi y hb).1 hy)
     (by rw [wQ hi'] at hset; exact hset)
    rw [hlen, hun] at h5
    refine jA (fun _ h => h) agree (fun y o' hy ho => ?_) h5
    rw [g4 y]
    ·exact ho
    ·rintro rfl
     rcases hy with hy | hy
     ·exact (hBi _ hy).2 rfl
     ·exact p3.row d _ look2 _ hbB hy
   ·intro S hS y o' hy ho
    rw [g4 y (hS y hy).2]; exact ho
 have hwv : (ρ3.widen d K).val d = ρ3.val d := rfl
 have hput := r4.putRow look2 (w' := w') (r' := { r' with l := r'.l.set i x, m := Nat.min r'.m (m + 1) }) (B := fun y => ρ3.ft d y \/ K y) (by rw [g2]; exact Nat.le_refl _) g3 (fun y _ hy => g4 y (by
   rintro rfl; exact hy (by simp [Env.widen]; exact .inl hbB))) rfl (show r'.hole = none from qN hd') (by simp only [hM]; exact hnew) (vD (n := M + 1) hnew (by omega)) (fun y hy => .inl (by simpa [Env.widen] using hy))
 simp only [qGe] at hput
 exact ⟨_, w', g1, hput⟩
end
theorem Rep.putIn {φ : Fix} {ρ : Env} {st : St} {a : Act} {w w' : World} (h : Rep φ ρ st a w) {d : Nat} {r r' : Row} {B : Nat -> Prop} (hd : qL d st.rows = some r)
  (hg : w.heap.size <= w'.heap.size) (hio : zD w w') (hk : ∀ b, b < w.heap.size -> ¬ ρ.ft d b -> w'.heap[b]? = w.heap[b]?) (ht : r'.t = r.t) (h0 : r'.hole = none)
  (hr : qJ ρ.F w' (.sl r'.e r'.t) r'.m r'.l B [ρ.val d]) (hL : r'.l ≠ [] -> ∃ b n c, xP (ρ.val d) b n c) (hB : ∀ y, B y -> ρ.ft d y \/ (w.heap.size <= y /\ y < w'.heap.size)) (htop : ∀ y, Top (ρ.val d) y -> w'.heap[y]? = w.heap[y]?) :
  Rep φ (ρ.setRow d (ρ.val d) r.t B) { st with rows := put d r' st.rows } a w' := by
 have agree : ∀ S : Nat -> Prop, (∀ y, S y -> ¬ ρ.ft d y) -> qC S w w' := fun S hS b o hb ho => by
  have : b < w.heap.size := by
   rcases Nat.lt_or_ge b w.heap.size with h' | h'
   ·exact h'
   ·simp [Array.getElem?_eq_none h'] at ho
  rw [hk b this (hS b hb)]; exact ho
 have hF : qC ρ.F w w' := agree _ fun y hy hf => (h.rF d r hd y hf).1 hy
 have same : ∀ e, (ρ.setRow d (ρ.val d) r.t B).val e = ρ.val e /\ (ρ.setRow d (ρ.val d) r.t B).ty e = ρ.ty e := fun e => by
  simp only [Env.setRow]
  constructor
  ·split
   ·rename_i he; rw [he]
   ·rfl
  ·split
   ·rename_i he; rw [he, (h.rows d r hd).2.1]
   ·rfl
 have top : ∀ e re, qL e st.rows = some re -> e ≠ d -> ∀ y, ρ.ft e y -> ¬ ρ.ft d y := fun e re he hn y hy => h.rsep e d re r he hd hn y hy
 have m : ∀ c : CV, jM ρ (ρ.setRow d (ρ.val d) r.t B) w w' c :=
  fun c => ⟨fun _ h => h, hF, fun e _ => same e, fun e he ho => ⟨.inr ho, fun b n k hn hl => by
   obtain ⟨re, hre⟩ := h.on e ho
   by_cases hne : e = d
   ·subst hne
    rintro y o rfl hy
    rw [htop y ⟨n, k, hl⟩]; exact hy
   refine agree _ fun y hy => ?_
   subst hy
   rcases qD9 (h.rows e re hre) hl hn with ⟨_, hf⟩ | ⟨_, hf⟩
   ·exact fun hf' => (h.rF d r hd _ hf').1 hf
   ·exact top e re hre hne _ hf⟩, fun _ _ => rfl⟩
 have hbx : ∀ {b x}, qL b st.boxes = some x -> ∃ y, qL b st.boxes = some y /\ y.ro = x.ro := fun {b x} hx => ⟨x, hx, rfl⟩
 have hlt : ∀ b x, qL b st.boxes = some x -> ρ.blk b < w.heap.size := fun b x hx => by
  obtain ⟨arr, fr, h1, _⟩ := h.boxes b x hx
  exact h1.lt
 have hlk : ∀ {e re}, qL e (put d r' st.rows) = some re -> (e = d /\ re = r') \/ (e ≠ d /\ qL e st.rows = some re) := fun {e re} he => by
  rw [qP] at he
  by_cases hh : e = d
  ·rw [if_pos hh] at he; simp only [Option.some.injEq] at he; exact .inl ⟨hh, he.symm⟩
  ·rw [if_neg hh] at he; exact .inr ⟨hh, he⟩
 have ftB : ∀ e re, qL e (put d r' st.rows) = some re -> ∀ y, (ρ.setRow d (ρ.val d) r.t B).ft e y -> ρ.ft e y \/ (e = d /\ w.heap.size <= y /\ y < w'.heap.size) := fun e re he y hy => by
  simp only [Env.setRow] at hy
  by_cases hh : e = d
  ·rw [if_pos hh] at hy; subst hh; exact (hB y hy).imp id fun h => ⟨rfl, h⟩
  ·rw [if_neg hh] at hy; exact .inl hy
 have old : ∀ e re, qL e (put d r' st.rows) = some re -> ∃ re', qL e st.rows = some re' := fun e re he => by
  rcases hlk he with ⟨rfl, _⟩ | ⟨_, he⟩
  ·exact ⟨r, hd⟩
  ·exact ⟨re, he⟩
 exact {
  size := h.size, nodef := h.nodef
  on := fun e he => by
   show ∃ r, qL e (put d r' st.rows) = some r
   rw [qP]
   by_cases hh : e = d
   ·exact ⟨r', by rw [if_pos hh]⟩
   ·rw [if_neg hh]; exact h.on e (he.resolve_left hh)
  slots := fun s v hs => ⟨(h.slots s v hs).1, kF (fun c _ => m c) (h.slots s v hs).2⟩
  rows := fun e re he => by
   rcases hlk he with ⟨rfl, rfl⟩ | ⟨hne, he⟩
   ·exact ⟨trivial, by simp [Env.setRow, ht], by simpa [Env.setRow] using zJ.mk h0 hr, by simpa [Env.setRow] using hL⟩
   ·obtain ⟨g1, g2, g3, g4⟩ := h.rows e re he
    refine ⟨g1, by simp only [Env.setRow, if_neg hne]; exact g2, ?_, by simp only [Env.setRow, if_neg hne]; exact g4⟩
    simp only [Env.setRow, if_neg hne]
    exact vO (fun _ h => h) hF (agree _ fun y hy => top e re he hne y hy) g3
  boxes := fun b x hx => by
   obtain ⟨arr, fr, q1, q2, q3⟩ := h.boxes b x hx
   exact ⟨arr, fr, by show xK _ (w'.heap[ρ.blk b]?) _ _ _; rw [hk _ (hlt b x hx) (h.rb d r b x hd hx)]; exact q1, q2, q3.imp fun _ _ => jP (m _)⟩
  rsep := fun e e' r1 r2 h1 h2 hn y hy hy' => by
   obtain ⟨q1, g1⟩ := old e r1 h1
   obtain ⟨q2, g2⟩ := old e' r2 h2
   rcases ftB e r1 h1 y hy with p1 | ⟨p1, p2, _⟩ <;> rcases ftB e' r2 h2 y hy' with p3 | ⟨p3, p4, _⟩
   ·exact h.rsep e e' q1 q2 g1 g2 hn y p1 p3
   ·have := (h.rF e q1 g1 y p1).2.1; omega
   ·have := (h.rF e' q2 g2 y p3).2.1; omega
   ·exact hn (p1.trans p3.symm)
  rF := fun e r1 h1 y hy => by
   obtain ⟨q1, g1⟩ := old e r1 h1
   rcases ftB e r1 h1 y hy with hy | ⟨rfl, hy, hy'⟩
   ·obtain ⟨p1, p2, p3⟩ := h.rF e q1 g1 y hy; exact ⟨p1, by omega, p3⟩
   ·exact ⟨fun hf => by have := (h.Fbd y hf).1; omega, hy', .inr (Nat.le_trans h.grow hy)⟩
  rb := fun e r1 b x h1 h2 hf => by
   obtain ⟨q1, g1⟩ := old e r1 h1
   obtain ⟨y, hy, _⟩ := hbx h2
   rcases ftB e r1 h1 _ hf with hf | ⟨rfl, hy', _⟩
   ·exact h.rb e q1 b y g1 hy hf
   ·have := hlt b y hy
    have e1 : (ρ.setRow e (ρ.val e) r.t B).blk b = ρ.blk b := rfl
    omega
  bsep := fun b b' x x' hx hx' hn => by obtain ⟨y, hy, _⟩ := hbx hx; obtain ⟨y', hy', _⟩ := hbx hx'; exact h.bsep b b' y y' hy hy' hn
  bF := fun b x hx => by obtain ⟨y, hy, e⟩ := hbx hx; rw [<- e]; exact h.bF b y hy
  Fbd := fun y hy => ⟨Nat.lt_of_lt_of_le (h.Fbd y hy).1 hg, (h.Fbd y hy).2⟩
  F0 := h.F0
  grow := Nat.le_trans h.grow hg
  io := h.io.trans hio
  tab := h.tab
  keep := fun b hb hn => by
   have hf : ¬ ρ.ft d b := fun hf => by
    rcases (h.rF d r hd b hf).2.2 with h' | h'
    ·exact hn h'
    ·omega
   rw [hk b (Nat.lt_of_lt_of_le hb h.grow) hf]; exact h.keep b hb hn
  lentR := fun e he => by
   simp only [Env.setRow]
   split
   ·rename_i hh; subst hh; exact h.lentR _ he
   ·exact h.lentR e he
  lentB := h.lentB }
theorem qHf {w w' : World} {b i sz off n : Nat} {arr : Array Value} {e : TypeId} {fr : Nat × Nat} {us : List Value} (hb : w.heap[b]? = some (.cells arr e fr))
  (hb' : w'.heap[b]? = some (.cells (arr.toList.take (i * sz + off) ++ us ++ arr.toList.drop (i * sz + off + n)).toArray e fr)) (hun : us.length = n) (hoff : off + n <= sz) (hcap : (i + 1) * sz <= arr.size) :
  (∀ arr0 fr0, w.heap[b]? = some (.cells arr0 e fr0) -> ∃ arr', w'.heap[b]? = some (.cells arr' e fr0) /\ arr'.size = arr0.size /\ ∀ k, (k < i * sz \/ (i + 1) * sz <= k) -> arr'[k]? = arr0[k]?) /\
  ∀ vs, qV w b (i * sz) vs -> vs.length = sz -> qV w' b (i * sz) (vs.take off ++ us ++ vs.drop (off + n)) := by
 have e9 : (i + 1) * sz = i * sz + sz := by rw [Nat.add_mul]; omega
 have m1 : min (i * sz + off) arr.size = i * sz + off := by omega
 constructor
 ·intro arr0 fr0 hb0
  rw [hb] at hb0
  simp only [Option.some.injEq, Obj.cells.injEq] at hb0
  obtain ⟨rfl, _, rfl⟩ := hb0
  refine ⟨_, hb', by simp [hun]; omega, fun k hk => ?_⟩
  simp only [List.getElem?_toArray]
  rw [yG]
  simp only [List.length_take, Array.length_toList, hun, m1]
  rcases hk with hk | hk
  ·rw [if_pos (by omega), List.getElem?_take_of_lt (by omega)]
   simp
  ·rw [if_neg (by omega), if_neg (by omega), List.getElem?_drop, show i * sz + off + n + (k - (i * sz + off + n)) = k by omega]
   simp
 ·intro vs hc hl2 j hj
  rw [jV]
  refine ⟨_, _, _, hb', ?_⟩
  have hjs : j < sz := by
   simp only [List.length_append, List.length_take, List.length_drop, hun, hl2] at hj
   omega
  have old : ∀ j, j < vs.length -> arr[i * sz + j]? = vs[j]? := fun j hj => by
   have := hc j hj
   rw [jV] at this
   obtain ⟨arr0, e0, fr0, q1, q2⟩ := this
   rw [hb] at q1
   simp only [Option.some.injEq, Obj.cells.injEq] at q1
   obtain ⟨rfl, _, _⟩ := q1
   rw [q2, List.getElem?_eq_getElem hj]
  rw [<- List.getElem?_eq_getElem (by simp [hun, hl2]; omega)]
  simp only [List.getElem?_toArray]
  rw [yG, yG]
  simp only [List.length_take, Array.length_toList, hun, hl2]
  have m2 : min off sz = off := by omega
  rw [m1, m2]
  by_cases h1 : j < off
  ·rw [if_pos (by omega), if_pos h1, List.getElem?_take_of_lt (by omega), List.getElem?_take_of_lt h1]
   have := old j (by omega)
   simpa using this
  ·rw [if_neg (by omega), if_neg h1]
   by_cases h2 : j < off + n
   ·rw [if_pos (by omega), if_pos h2]
    congr 1
    omega
   ·rw [if_neg (by omega), if_neg h2, List.getElem?_drop, List.getElem?_drop]
    have := old j (by omega)
    rw [show off + n + (j - (off + n)) = j by omega, show i * sz + off + n + (i * sz + j - (i * sz + off + n)) = i * sz + j by omega]
    simpa using this
section
variable {φ : Fix} {ρ : Env} {st : St} {a : Act} {w : World} {P : Program} {C : Ctx}
theorem qDU {F : Nat -> Prop} {w : World} {e : TypeId} {t : Ty} {M : Nat} {l : List t.T} {B : Nat -> Prop} {v : Value} {b c i : Nat} (h : qJ F w (.sl e t) (M + 1) l B [v]) (hv : xP v b l.length c) (hi : i < l.length) :
  ∃ arr fr, w.heap[b]? = some (.cells arr e fr) /\ qBq arr.size fr /\ (i + 1) * t.sz <= arr.size /\ B b /\ ∃ vs Bi, qV w b (i * t.sz) vs /\ qJ F w t M l[i] Bi vs := by
 rw [qJ] at h
 obtain ⟨v', q1, a', k, q2, ⟨q3, _⟩ | ⟨b', arr, fr, q3, q4, q5, q6, q7, q8, Bs, _, _, q9⟩⟩ := h
 ·rw [q3] at hi; simp at hi
 ·simp only [List.cons.injEq, and_true] at q1
  rw [<- q1, hv] at q2
  simp only [Value.slice.injEq] at q2
  rw [q3] at q2
  simp only [Option.some.injEq, Addr.mk.injEq] at q2
  obtain ⟨⟨rfl, _⟩, _, rfl⟩ := q2
  obtain ⟨vs, g1, g2⟩ := q9 i hi
  exact ⟨arr, fr, q4, q5, Nat.le_trans (Nat.mul_le_mul_right _ (by omega)) q6, q8, vs, Bs i, g1, g2⟩
theorem qEY (hC : jK P C) (h : Rep φ ρ st a w) {t : TypeId} {g : Bool} {n : Nat} (hs : qCv C t = some (g, n)) {d i off j off2 : Nat} {p v : Value} {cs : List CV} {r : Row} {e : TypeId} {u : Ty} {l : List u.T} {x : u.T} {y : r.t.T}
  (hp : zQ ρ w (.pn d i off j off2) p) (hv : jC (CVR ρ w) cs v.cells.toList) (hn : cs.length = n) (hn0 : n ≠ 0) (hd : st.row? d = some r) (hm : ¬ r.m <= 1) (hat : r.t.slAt (nth r.t r.l i) off = some ⟨e, u, l⟩) (href : u.refs = false)
  (hset : u.setCells (nth u l j) off2 cs = some x) (hsl : r.t.slSet (nth r.t r.l i) off e u (l.set j x) = some y) :
  qDa P φ (Instr.storeAt t p v) a w { st with rows := put d { r with l := r.l.set i y } st.rows } := by
 have hd1 := qM hd
 obtain ⟨_, b, n1, c1, e', u', b', n', c', e1, hi, e2, e3, hj, rfl⟩ := hp
 have hrow := h.rows d r hd1
 rw [hrow.2.1] at e2 e3
 have hu : e' = e /\ u' = u := by
  have := qAT hat
  rw [e2] at this
  simpa using this
 obtain ⟨rfl, rfl⟩ := hu
 obtain ⟨K, hK⟩ : ∃ K, r.m = K + 2 := ⟨r.m - 2, by omega⟩
 obtain ⟨hi', vs, Bi, g1, hbB, g2, g3⟩ := h.rowElt hd1 (qN hd) (m := K + 1) hK e1 hi
 obtain ⟨bb, cc, ev, _, _⟩ := h.rowVal hd1 (qCf hd)
 have hl : xP (ρ.val d) b r.l.length c1 := by
  rw [e1] at ev ⊢
  simp only [Value.slice.injEq] at ev
  rw [ev.2.1]; rfl
 rw [wQ hi'] at hat hsl
 have nest : ∀ {Bx : Nat -> Prop} {v0 : Value} {vs0 : List Value}, qV w b (i * r.t.sz) vs0 -> vs0[off]? = some v0 -> v0 = .slice (some ⟨b', 0, none⟩) n' c' := fun {Bx v0 vs0} hc hv0 => by
  obtain ⟨hlt, hv0⟩ := List.getElem?_eq_some_iff.1 hv0
  have := hc off hlt
  rw [hv0, e3] at this
  simpa using this.symm
 have nlen : ∀ {Bx : Nat -> Prop} {F : Nat -> Prop} {m : Nat}, qJ F w (.sl e' u') (m + 1) l Bx [.slice (some ⟨b', 0, none⟩) n' c'] -> n' = l.length := fun ho => by
  rw [qJ] at ho
  obtain ⟨v', q1, a', k, q2, _⟩ := ho
  simp only [List.cons.injEq, and_true] at q1
  rw [<- q1] at q2
  simp only [Value.slice.injEq] at q2
  exact q2.2.1
 obtain ⟨v0, Bx, k1, k2, k3⟩ := qE6 hat g3
 have hv0 := nest (Bx := Bx) g1 k1
 subst hv0
 have hnl := nlen k3
 have hjl : j < l.length := by omega
 have hlies : xP (.slice (some ⟨b', 0, none⟩) n' c') b' l.length c' := by rw [hnl]; rfl
 obtain ⟨arr, fr, hb, hfr, hcap, hbx, us, Bj, q1, q2⟩ := qDU k3 hlies hjl
 have hbne : b' ≠ b := (g2 b' (k2 b' hbx)).2
 have hbft : ρ.ft d b' := (g2 b' (k2 b' hbx)).1
 have hun : v.cells.size = n := by have := hv.length; simp only [Array.length_toList] at this; omega
 have hcells : v.cells.toList.length = n := by simpa using hun
 rw [wQ hjl] at hset
 have elt : ∀ {us : List Value} {Bj : Nat -> Prop} {m : Nat}, qJ ρ.F w u' m l[j] Bj us -> Rd ρ.F w u' x (us.take off2 ++ v.cells.toList ++ us.drop (off2 + n)) := fun {us Bj m} ho => by
  have h1 := qCp (F := ρ.F) (w := w) (qGO (G := ρ.F) (w' := w) href (qAb ho))
  unfold Ty.setCells at hset
  refine qCg hset ?_
  rw [hn]
  exact ((h1.take off2).append (hv.imp fun _ _ => qF5)).append (h1.drop _)
 have hoff : off2 + n <= u'.sz := by
  have h6 := qB7 (elt q2)
  have h7 := jB q2
  simp only [List.length_append, List.length_take, List.length_drop, hcells, h7] at h6
  omega
 have hle : (j * u'.sz + off2) + n <= arr.size := by rw [Nat.add_mul] at hcap; omega
 obtain ⟨w', s1, s2, s3, s4, s5⟩ := wI (P := P) hC hs (off := j * u'.sz + off2) hb hfr hun hle (qBp hv)
 obtain ⟨pa, pc⟩ := qHf hb s5 hcells hoff hcap
 have hFb : ¬ ρ.F b' := (h.rF d r hd1 b' hbft).1
 have aF : qC ρ.F w w' := fun z o hz ho => by rw [s4 z (by rintro rfl; exact hFb hz)]; exact ho
 have ho := zJ.whole (qN hd) hrow.2.2.1
 rw [hK] at ho
 have hnew : qJ ρ.F w' (.sl r.e r.t) (K + 1 + 1) (r.l.set i y) (fun z => ρ.ft d z \/ False) [ρ.val d] := by
  refine qEI ho hl hi' ?_ ?_ (fun z hz hb => (h.rF d r hd1 z hb).1 hz) (fun _ h => h.elim)
  ·intro arr0 fr0 hb0
   exact ⟨arr0, by rw [s4 b (Ne.symm hbne)]; exact hb0, rfl, fun _ _ => rfl⟩
  ·intro Bi' vs' hBi' hc' ho'
   have key := qIa (w' := w') aF hat hsl ho' (fun Bx' v1 hv1 hB1 ho1 => by
    have hv2 := nest (Bx := Bx') hc' hv1
    subst hv2
    have hbx' : Bx' b' := by
     obtain ⟨_, _, _, _, _, hh, _⟩ := qDU ho1 hlies hjl
     exact hh
    refine ⟨?_, fun S hS z o hz ho => by rw [s4 z (by rintro rfl; exact hS _ hz hbx')]; exact ho⟩
    refine zP (B := fun z => Bx' z \/ False) (fun z hz => hz.elim id False.elim) (qEI ho1 hlies hjl pa ?_ (fun z hz hb => (h.rF d r hd1 z (hBi' z (hB1 z hb)).1).1 hz) (fun _ h => h.elim))
    intro Bj' us' hBj' hcj ho2
    refine ⟨_, pc us' hcj (jB ho2), qDg (B := fun _ => False) href (qBM (elt ho2)), fun S hS z o hz ho => by rw [s4 z (hS z hz).2]; exact ho⟩)
   refine ⟨vs', ?_, zP (fun z hz => .inl hz) key.1, fun S hS => key.2 S fun z hz => (hS z hz).1⟩
   intro k hk
   have := hc' k hk
   rw [jV] at this ⊢
   obtain ⟨cs0, e0, fr0, z1, z2⟩ := this
   exact ⟨cs0, e0, fr0, by rw [s4 b (Ne.symm hbne)]; exact z1, z2⟩
 refine ⟨_, w', s1, h.putIn hd1 (r' := { r with l := r.l.set i y }) (B := fun z => ρ.ft d z \/ False) (by rw [s2]; exact Nat.le_refl _) s3 (fun z _ hz => s4 z (by rintro rfl; exact hz hbft)) rfl (show r.hole = none from qN hd)
  (by simp only [hK]; exact hnew) (vD (n := K + 1 + 1) hnew (by omega)) (fun z hz => .inl (hz.elim id False.elim)) (fun z hz => s4 z ?_)⟩
 obtain ⟨_, _, hz⟩ := hz
 rw [e1] at hz
 simp only [xP, Value.slice.injEq, Option.some.injEq, Addr.mk.injEq] at hz
 rintro rfl
 exact hbne hz.1.1.symm
end
def qLA {α : Type} : Nat -> List α -> List α
 | 0, _ => []
 | n + 1, l => l ++ qLA n l
theorem qHb {α : Type} (l : List α) : ∀ n, (qLA n l).length = n * l.length
 | 0 => by simp [qLA]
 | n + 1 => by simp [qLA, qHb l n, Nat.add_mul]; omega
theorem qHc {α : Type} (l : List α) : ∀ n i, i < n * l.length -> (qLA n l)[i]? = l[i % l.length]?
 | 0, i, h => by omega
 | n + 1, i, h => by
  simp only [qLA]
  by_cases hi : i < l.length
  ·rw [List.getElem?_append_left hi, Nat.mod_eq_of_lt hi]
  ·rw [List.getElem?_append_right (by omega), qHc l n _ (by rw [Nat.add_mul] at h; omega)]
   congr 1
   rw [<- Nat.mod_eq_sub_mod (by omega)]
theorem qJd {R : CV -> Value -> Prop} {cs : List CV} {vs : List Value} (h : jC R cs vs) : ∀ n, jC R (rep n cs) (qLA n vs)
 | 0 => trivial
 | n + 1 => h.append (qJd h n)
theorem qJh (z : Array Value) (n : Nat) : ((Array.range (n * z.size)).map (z[· % z.size]!)).toList = qLA n z.toList := by
 apply List.ext_getElem?
 intro i
 by_cases hi : i < n * z.size
 ·rw [qHc _ _ _ (by simpa using hi), Array.getElem?_toList, qAf z n i hi]
  simp
 ·rw [List.getElem?_eq_none (by simp; omega), List.getElem?_eq_none (by rw [qHb]; simp; omega)]
section
variable {φ : Fix} {ρ : Env} {st : St} {a : Act} {w : World} {P : Program} {C : Ctx}
theorem Rep.newRow (h : Rep φ ρ st a w) {w' : World} (g : jO w w') {d : Nat} {r : Row} {v : Value} {K : Nat -> Prop} {nb : Nat} (hK : qI φ ρ st w K) (hnb : w.heap.size <= nb) (hnb' : nb < w'.heap.size) (h0 : r.hole = none)
  (hr : qJ ρ.F w' (.sl r.e r.t) r.m r.l (fun y => y = nb \/ K y) [v]) (hm : r.m ≠ 0) : Rep φ (ρ.setRow d v r.t fun y => y = nb \/ K y) (st.addRow d r) a w' := by
 refine h.addRow g h0 hr (vD hr hm) ?_ ?_ ?_
 ·intro y hy
  rcases hy with rfl | hy
  ·exact ⟨fun hf => by have := (h.Fbd _ hf).1; omega, hnb', .inr (Nat.le_trans h.grow hnb)⟩
  ·obtain ⟨p1, p2, p3⟩ := hK.here y hy
   exact ⟨p1, Nat.lt_of_lt_of_le p2 g.1, p3⟩
 ·intro e r' _ he y hy hb
  rcases hb with rfl | hb
  ·have := (h.rF e r' he _ hy).2.1; omega
  ·exact hK.row e r' he y hy hb
 ·intro b x hx hb
  rcases hb with hb | hb
  ·obtain ⟨arr, fr, k1, _⟩ := h.boxes b x hx
   have := k1.lt
   omega
  ·exact hK.box b x hx hb
theorem qEw (hC : jK P C) (h : Rep φ ρ st a w) {t e : TypeId} {ei : TI} {u : Ty} (ht : qH9 C t = some (e, ei, u)) {n : Nat} {parts : Array (Nat × Operand)} {cs cs' : List CV} {m : Nat} {st' : St} {l : List u.T}
  (hf : qFE C (fun j => some (j * ei.size, ei.size, e)) st (rep n ei.zero) parts.toList = some cs) (hsink : qLz st cs = some (cs', m, st')) (hel : qEr u n cs' = some l) (hcap : n * ei.size <= 16777216) (hsz : ei.size = u.sz) {d : Nat} :
  Ans P φ (Instr.buildSlice t n (parts.map fun (i, x) => (i, a.eval x))) a w (st'.addRow d { e := e, t := u, l := l, m := Nat.min 99 (m + 1) }) (.c (.own d)) := by
 obtain ⟨hu, hei, hty⟩ := qD4 hC ht
 have T := hC.ti e ei hei
 obtain ⟨inf, i1, i2, i3, zv, i4, i5, i6, _⟩ := T.inf
 obtain ⟨vs', g1, g2, g3⟩ := qGs hC h (pl := fun i => some (i * ei.size, ei.size)) (vs := (Array.range (n * zv.cells.size)).map (zv.cells[· % zv.cells.size]!)) (fun j off k ft hj => by
  simp only [Option.some.injEq, Prod.mk.injEq] at hj ⊢; exact ⟨hj.1, hj.2.1⟩) hf (by
  rw [qJh]; exact qJd ((i5 ρ w).imp fun _ _ => zL) n)
 obtain ⟨ρ1, B, r1, o1, p1, s1, _⟩ := qGa h (Env.Sim.refl ρ) g2 hsink
 obtain ⟨M, hM⟩ : ∃ M, Nat.min 99 (m + 1) = M + 1 := ⟨Nat.min 99 (m + 1) - 1, by have : 0 < Nat.min 99 (m + 1) := Nat.lt_min.2 ⟨by omega, by omega⟩; omega⟩
 have hMm : M <= m := by have : Nat.min 99 (m + 1) <= m + 1 := Nat.min_le_right _ _; omega
 obtain ⟨K, k1, o3⟩ := qCq hMm o1
 have r3 := r1.addF (p1.sub (B' := fun y => B y /\ ¬ K y) fun y hy => hy.1)
 have p3 := (p1.sub k1).addF (G := fun y => B y /\ ¬ K y) fun y hy hg => hg.2 hy
 obtain ⟨q1, q2, Bs, q3, q4, q5⟩ := qDN hel o3
 have hrun : (Instr.buildSlice t n (parts.map fun (i, x) => (i, a.eval x))).run P w = .ok (.slice (some ⟨w.heap.size, 0, none⟩) n n) { w with heap := w.heap.push (.cells vs' e) } := by
  have hsize : inf.size = ei.size := i2
  have hlt : ¬ (n * ei.size > 2 ^ 24) := by omega
  have hfill : Instr.fill (fun i => some (i * ei.size, ei.size)) ((Array.range (n * ei.size)).map ((if n * ei.size = 0 then #[] else zv.cells)[· % (if n * ei.size = 0 then #[] else zv.cells).size]!)) (parts.map fun (i, x) => (i, a.eval x)).toList = some vs' := by
   rw [<- g1]
   have : ((Array.range (n * ei.size)).map ((if n * ei.size = 0 then #[] else zv.cells)[· % (if n * ei.size = 0 then #[] else zv.cells).size]!)) = (Array.range (n * zv.cells.size)).map (zv.cells[· % zv.cells.size]!) := by
    by_cases h0 : n * ei.size = 0
    ·have h0' : n * zv.cells.size = 0 := by rw [i6]; exact h0
     have hr0 : ∀ f : Nat -> Value, Array.map f (Array.range 0) = #[] := fun f => Array.eq_empty_of_size_eq_zero (by simp)
     rw [h0, h0', hr0, hr0]
    ·simp only [if_neg h0, i6]
   rw [this]
   congr 1
   simp
  unfold Instr.buildSlice
  rw [Sem.run_bind, run_underlying hu, Result.andThen_ok]
  simp only [Sem.run_bind, T.runSize w, Result.andThen_ok, if_neg hlt, Sem.run_pure]
  have e0 : (Array.map (fun x => ((x.fst, a.eval x.snd) : Nat × Value)) parts).toList = (parts.map fun (i, x) => (i, a.eval x)).toList := rfl
  by_cases h0 : n * ei.size = 0
  ·simp only [if_pos h0] at hfill ⊢
   simp only [Sem.run_bind, Sem.run_pure, Result.andThen_ok, hfill]
   simp [Go.newRow]
  ·simp only [if_neg h0] at hfill ⊢
   have hz : (zeroValue e).run P w = .ok zv w := by simp [zeroValue, typeInfo, i1, i4]
   simp only [Sem.run_bind, hz, Sem.run_pure, Result.andThen_ok, hfill]
   simp [Go.newRow]
 have g := jO.push w (.cells vs' e)
 have hb : ({ w with heap := w.heap.push (.cells vs' e) } : World).heap[w.heap.size]? = some (.cells vs' e (0, 0)) := by simp
 generalize hρ3 : ρ1.addF (fun y => B y /\ ¬ K y) = ρ3 at r3 p3
 have hrow : qJ ρ3.F { w with heap := w.heap.push (.cells vs' e) } (.sl e u) (M + 1) l (fun y => y = w.heap.size \/ K y) [.slice (some ⟨w.heap.size, 0, none⟩) l.length n] := by
  have hvs : vs'.size = n * u.sz := by simpa using q2
  refine qAm hb (qBq.zero _) (by rw [hvs]; exact Nat.le_refl _) (by omega) (vs := vs'.toList) (fun j _ => by simp) (by rw [q1]; exact q2) (.inl rfl) Bs (fun i x hi hx => ⟨.inr (q3 i x (by omega) hx), ?_⟩) (fun i j x hi hj => q4 i j x (by omega) (by omega)) (fun i hi => ?_)
  ·have := (p3.here x (q3 i x (by omega) hx)).2.1
   omega
  ·refine jA (fun y hy => ?_) (g.agree _) (g.agree _) (q5 i hi)
   rw [<- hρ3]; exact hy
 rw [q1] at hrow
 refine ⟨_, _, _, hrun, r3.newRow g (r := { e := e, t := u, l := l, m := Nat.min 99 (m + 1) }) (v := .slice (some ⟨w.heap.size, 0, none⟩) n n) (K := K) (nb := w.heap.size) p3 (Nat.le_refl _) (by simp) rfl (by simp only [hM]; exact hrow) (by show Nat.min 99 (m + 1) ≠ 0; rw [hM]; omega), ?_⟩
 simp [SVR, qEH, CVR, zQ, Env.setRow, Value.oneCell']
theorem qEv (w : World) (e : TypeId) (s : ByteArray) : zD w (Lib.bytesWorld w e s) := by
 unfold Lib.bytesWorld World.freeze
 rw [if_neg (by decide)]
 exact ⟨rfl, rfl, rfl⟩
theorem qLm (hC : jK P C) (h : Rep φ ρ st a w) {src dst e : TypeId} {sd : TypeDesc} {s : List UInt8} (hs : P.underlying src = some sd) (hd : P.underlying dst = some (.slice e)) (he : P.underlying e = some (.int .u8)) {d : Nat} :
  Ans P φ (convert src dst (.string ⟨⟨s⟩⟩)) a w (st.addRow d { e := e, t := .int .u8, l := s.map fun c => (c.toNat : Int), m := 99 }) (.c (.own d)) := by
 have hrun := Lib.run_convert_string_bytes (P := P) w src dst e ⟨⟨s⟩⟩ hs hd he
 have hsz : (ByteArray.mk ⟨s⟩).size = s.length := rfl
 rw [hsz] at hrun
 have hnew := Lib.bytesWorld_at_new w e ⟨⟨s⟩⟩
 have hsize := Lib.bytesWorld_size w e ⟨⟨s⟩⟩
 have g : jO w (Lib.bytesWorld w e ⟨⟨s⟩⟩) := ⟨by rw [hsize]; omega, fun y hy => Lib.bytesWorld_at_old w e ⟨⟨s⟩⟩ y hy, qEv w e _⟩
 have hge : s.length <= grownCap w s.length 0 e := by simp only [grownCap, Question.cut]; omega
 have hcs : (Lib.bytesCells w e ⟨⟨s⟩⟩).size = s.length + (grownCap w s.length 0 e - s.length) := by
  simp [Lib.bytesCells, hsz]
 have hrow : qJ ρ.F (Lib.bytesWorld w e ⟨⟨s⟩⟩) (.sl e (.int .u8)) (98 + 1) (s.map fun c => (c.toNat : Int)) (fun y => y = w.heap.size \/ False) [.slice (some ⟨w.heap.size, 0, none⟩) (s.map fun c => (c.toNat : Int)).length (grownCap w s.length 0 e)] := by
  refine qAm hnew ⟨by simp, fun o ho hh => by simp only at hh; omega⟩ (by rw [hcs]; simp [Ty.sz]; omega) (by simpa using hge) (vs := s.map fun c => Value.int .u8 (c.toNat : Int)) (fun j hj => ?_) (by simp [Ty.sz]) (.inl rfl) (fun _ _ => False) (fun _ _ _ h => h.elim) (fun _ _ _ _ _ h => h.elim) (fun i hi => ?_)
  ·have hj' : j < s.length := by simpa [Ty.sz] using hj
   simp [Lib.bytesCells, Array.getElem?_append, hj']
  ·have hi' : i < s.length := by simpa using hi
   rw [qJ]
   simp only [Ty.sz, Nat.mul_one]
   rw [List.take_one]
   simp [hi']
 refine ⟨_, _, _, hrun, h.newRow g (r := { e := e, t := .int .u8, l := s.map fun c => (c.toNat : Int), m := 99 }) (v := .slice (some ⟨w.heap.size, 0, none⟩) s.length (grownCap w s.length 0 e)) (K := fun _ => False) (nb := w.heap.size) (qI.none _ _ _ _) (Nat.le_refl _) (by rw [hsize]; omega) rfl (by simpa using hrow) (by show 99 ≠ 0; omega), ?_⟩
 simp [SVR, qEH, CVR, zQ, Env.setRow, Value.oneCell']
end
theorem qGw {α : Type} (k : Nat) (x : α) : ∀ l : List (Nat × α), del k (put k x l) = del k l
 | [] => by simp [put, del]
 | (j, z) :: l => by
  have ih := qGw k x l
  simp only [del] at ih ⊢
  simp only [put]
  split
  ·rename_i h; subst h; simp
  ·split
   ·simp
   ·rename_i h1 h2
    simp only [List.filter_cons]
    rw [ih]
section
variable {φ : Fix} {ρ : Env} {st : St} {a : Act} {w : World} {P : Program} {C : Ctx}
theorem Rep.alter (h : Rep φ ρ st a w) {K : Nat -> Prop} (hK : qI φ ρ st w K) {w' : World} (hs : w.heap.size <= w'.heap.size) (hio : zD w w') (hk : ∀ y, y < w.heap.size -> ¬ K y -> w'.heap[y]? = w.heap[y]?) : Rep φ ρ st a w' := by
 have agree : ∀ S : Nat -> Prop, (∀ y, S y -> ¬ K y) -> qC S w w' := fun S hS y o hy ho => by
  have : y < w.heap.size := by
   rcases Nat.lt_or_ge y w.heap.size with h' | h'
   ·exact h'
   ·simp [Array.getElem?_eq_none h'] at ho
  rw [hk y this (hS y hy)]; exact ho
 have aF : qC ρ.F w w' := agree _ fun y hy hk => (hK.here y hk).1 hy
 have m : ∀ c : CV, jM ρ ρ w w' c := fun c => ⟨fun _ h => h, aF, fun _ _ => ⟨rfl, rfl⟩, fun d _ ho => ⟨ho, fun b n k hn hl => by
  obtain ⟨r, hr⟩ := h.on d ho
  refine agree _ ?_
  rintro y rfl hk'
  rcases qD9 (h.rows d r hr) hl hn with ⟨_, hf⟩ | ⟨_, hf⟩
  ·exact (hK.here _ hk').1 hf
  ·exact hK.row d r hr _ hf hk'⟩, fun _ _ => rfl⟩
 exact { h with
  slots := fun s v hv => ⟨(h.slots s v hv).1, kF (fun c _ => m c) (h.slots s v hv).2⟩
  rows := fun d r hr => ⟨(h.rows d r hr).1, (h.rows d r hr).2.1, vO (fun _ h => h) aF (agree _ (hK.row d r hr)) (h.rows d r hr).2.2.1, (h.rows d r hr).2.2.2⟩
  boxes := fun b x hx => by
   obtain ⟨arr, fr, h1, h2, h3⟩ := h.boxes b x hx
   exact ⟨arr, fr, h1.agree (agree (fun y => y = ρ.blk b) (by rintro y rfl; exact hK.box b x hx)) rfl, h2, h3.imp fun _ _ => jP (m _)⟩
  rsep := h.rsep
  rF := fun d r hr y hy => ⟨(h.rF d r hr y hy).1, Nat.lt_of_lt_of_le (h.rF d r hr y hy).2.1 hs, (h.rF d r hr y hy).2.2⟩
  rb := h.rb, bsep := h.bsep, bF := h.bF
  Fbd := fun y hy => ⟨Nat.lt_of_lt_of_le (h.Fbd y hy).1 hs, (h.Fbd y hy).2⟩
  F0 := h.F0, grow := Nat.le_trans h.grow hs, io := h.io.trans hio, tab := h.tab
  keep := fun y hy hn => by
   rw [hk y (Nat.lt_of_lt_of_le hy h.grow) fun hk' => by
    rcases (hK.here y hk').2.2 with h' | h'
    ·exact hn h'
    ·omega]
   exact h.keep y hy hn
  lentR := h.lentR, lentB := h.lentB }
def Fam (F : Nat -> Prop) (w : World) (t : Ty) (m : Nat) (l : List t.T) (Bs : Nat -> Nat -> Prop) (vs : List Value) : Prop :=
 vs.length = l.length * t.sz /\ (∀ i j x, i < l.length -> j < l.length -> Bs i x -> Bs j x -> i = j) /\ ∀ i (h : i < l.length), qJ F w t m l[i] (Bs i) ((vs.drop (i * t.sz)).take t.sz)
theorem Fam.nil {F : Nat -> Prop} {w : World} {t : Ty} {m : Nat} {Bs : Nat -> Nat -> Prop} : Fam F w t m [] Bs [] := ⟨by simp, fun _ _ _ h => by simp at h, fun i h => by simp at h⟩
theorem Fam.step {F F' : Nat -> Prop} {w w' : World} {t : Ty} {m : Nat} {l : List t.T} {Bs : Nat -> Nat -> Prop} {vs : List Value} (h : Fam F w t m l Bs vs) (hF : ∀ y, F y -> F' y) (ha : qC F w w') (hb : ∀ i, i < l.length -> qC (Bs i) w w') : Fam F' w' t m l Bs vs :=
 ⟨h.1, h.2.1, fun i hi => jA hF ha (hb i hi) (h.2.2 i hi)⟩
theorem Fam.less {F : Nat -> Prop} {w : World} {t : Ty} {m k : Nat} {l : List t.T} {Bs : Nat -> Nat -> Prop} {vs : List Value} (hk : k <= m) (h : Fam F w t m l Bs vs) :
  ∃ Bs' : Nat -> Nat -> Prop, (∀ i x, Bs' i x -> Bs i x) /\ Fam (fun y => F y \/ ∃ i, i < l.length /\ Bs i y /\ ¬ Bs' i y) w t k l Bs' vs := by
 have ex : ∀ i, ∃ B' : Nat -> Prop, (∀ y, B' y -> Bs i y) /\ ∀ h' : i < l.length, qJ (fun y => F y \/ (Bs i y /\ ¬ B' y)) w t k l[i] B' ((vs.drop (i * t.sz)).take t.sz) := fun i => by
  by_cases hi : i < l.length
  ·obtain ⟨B', g1, g2⟩ := qBk hk (h.2.2 i hi)
   exact ⟨B', g1, fun _ => g2⟩
  ·exact ⟨fun _ => False, fun _ h => h.elim, fun h' => absurd h' hi⟩
 refine ⟨fun i => Classical.choose (ex i), fun i x hx => (Classical.choose_spec (ex i)).1 x hx, h.1, fun i j x hi hj h1 h2 => h.2.1 i j x hi hj ((Classical.choose_spec (ex i)).1 x h1) ((Classical.choose_spec (ex j)).1 x h2), fun i hi => ?_⟩
 exact jA (fun y hy => hy.imp id fun hy => ⟨i, hi, hy⟩) (qC.refl _ _) (qC.refl _ _) ((Classical.choose_spec (ex i)).2 hi)
theorem Fam.append {F : Nat -> Prop} {w : World} {t : Ty} {m : Nat} {l l' : List t.T} {Bs Cs : Nat -> Nat -> Prop} {vs us : List Value} (h : Fam F w t m l Bs vs) (h' : Fam F w t m l' Cs us)
  (hd : ∀ i j x, i < l.length -> j < l'.length -> Bs i x -> ¬ Cs j x) : Fam F w t m (l ++ l') (fun i => if i < l.length then Bs i else Cs (i - l.length)) (vs ++ us) := by
 refine ⟨by simp [h.1, h'.1, Nat.add_mul], fun i j x hi hj h1 h2 => ?_, fun i hi => ?_⟩
 ·simp only [List.length_append] at hi hj
  by_cases a1 : i < l.length <;> by_cases a2 : j < l.length <;> simp only [a1, a2, if_true, if_false] at h1 h2
  ·exact h.2.1 i j x a1 a2 h1 h2
  ·exact absurd h2 (hd i _ x a1 (by omega) h1)
  ·exact absurd h1 (hd j _ x a2 (by omega) h2)
  ·have := h'.2.1 _ _ x (by omega) (by omega) h1 h2
   omega
 ·by_cases a1 : i < l.length
  ·simp only [a1, if_true]
   rw [List.getElem_append_left a1]
   have hle : (i + 1) * t.sz <= l.length * t.sz := Nat.mul_le_mul_right _ a1
   rw [Nat.add_mul] at hle
   rw [List.drop_append_of_le_length (by rw [h.1]; omega), List.take_append_of_le_length (by simp [h.1]; omega)]
   exact h.2.2 i a1
  ·simp only [a1, if_false]
   rw [List.getElem_append_right (by omega)]
   have hi' : i - l.length < l'.length := by simp only [List.length_append] at hi; omega
   have e1 : (vs ++ us).drop (i * t.sz) = us.drop ((i - l.length) * t.sz) := by
    have hle : l.length * t.sz <= i * t.sz := Nat.mul_le_mul_right _ (by omega)
    rw [List.drop_append, List.drop_eq_nil_of_le (by rw [h.1]; exact hle), h.1, List.nil_append, Nat.sub_mul]
   rw [e1]
   exact h'.2.2 _ hi'
theorem qJj {Q : Nat -> List Value -> Prop} {b off sz : Nat} : ∀ (n : Nat), (∀ i, i < n -> ∃ cs, cs.length = sz /\ qV w b (off + i * sz) cs /\ Q i cs) -> ∃ vs : List Value, vs.length = n * sz /\ qV w b off vs /\ ∀ i, i < n -> Q i ((vs.drop (i * sz)).take sz)
 | 0, _ => ⟨[], by simp, fun j hj => by simp at hj, fun i hi => by omega⟩
 | n + 1, h => by
  obtain ⟨vs, h1, h2, h3⟩ := qJj n fun i hi => h i (by omega)
  obtain ⟨cs, g1, g2, g3⟩ := h n (by omega)
  refine ⟨vs ++ cs, by simp [h1, g1, Nat.add_mul], fun j hj => ?_, fun i hi => ?_⟩
  ·by_cases hj' : j < vs.length
   ·rw [List.getElem_append_left hj']; exact h2 j hj'
   ·rw [List.getElem_append_right (by omega)]
    have := g2 (j - vs.length) (by simp only [List.length_append] at hj; omega)
    rw [<- this]
    congr 2
    omega
  ·by_cases hi' : i < n
   ·have hle : (i + 1) * sz <= n * sz := Nat.mul_le_mul_right _ hi'
    rw [Nat.add_mul] at hle
    rw [List.drop_append_of_le_length (by rw [h1]; omega), List.take_append_of_le_length (by simp [h1]; omega)]
    exact h3 i hi'
   ·have : i = n := by omega
    subst this
    rw [List.drop_append, List.drop_eq_nil_of_le (by rw [h1]; exact Nat.le_refl _), h1]
    simp only [Nat.sub_self, List.drop_zero, List.nil_append]
    rw [List.take_of_length_le (by omega)]
    exact g3
theorem qAM {F : Nat -> Prop} {t : Ty} {l : List t.T} {A : Option Addr} {n c : Nat} (h : qDd F w t l (.slice A n c)) :
  n = l.length /\ n <= c /\ ((n = 0 /\ l = []) \/ ∃ b off vs, A = some ⟨b, off, none⟩ /\ vs.length = l.length * t.sz /\ qV w b off vs /\ ∀ i (hi : i < l.length), Rd F w t l[i] ((vs.drop (i * t.sz)).take t.sz)) := by
 obtain ⟨a', c', e1, h0, g⟩ := h
 simp only [Value.slice.injEq] at e1
 obtain ⟨rfl, rfl, rfl⟩ := e1
 refine ⟨rfl, h0, ?_⟩
 cases l with
 | nil => exact .inl ⟨rfl, rfl⟩
 | cons x l =>
  right
  obtain ⟨b, off, cs, rfl, _⟩ := g 0 (by simp)
  obtain ⟨vs, h1, h2, h3⟩ := qJj (w := w) (b := b) (off := off) (sz := t.sz) (Q := fun i cs => ∀ hi : i < (x :: l).length, Rd F w t (x :: l)[i] cs) (x :: l).length (fun i hi => by
   obtain ⟨b', off', cs, e2, _, g2, g3⟩ := g i hi
   simp only [Option.some.injEq, Addr.mk.injEq] at e2
   obtain ⟨rfl, rfl, _⟩ := e2
   exact ⟨cs, qB7 g3, g2, fun _ => g3⟩)
  exact ⟨b, off, vs, rfl, h1, h2, fun i hi => h3 i hi hi⟩
end
theorem qEJ {F : Nat -> Prop} {w : World} : ∀ {t : Ty} {n : Nat} {x : t.T} {B : Nat -> Prop} {vs : List Value}, qJ F w t n x B vs -> ∀ v, v ∈ vs -> v.oneCell' = true := by
 intro t
 induction t with
 | int k => intro n x B vs h; rw [qJ] at h; subst h; intro v hv; simp at hv; subst hv; rfl
 | bool => intro n x B vs h; rw [qJ] at h; subst h; intro v hv; simp at hv; subst hv; rfl
 | str => intro n x B vs h; rw [qJ] at h; subst h; intro v hv; simp at hv; subst hv; rfl
 | unit => intro n x B vs h; rw [qJ] at h; subst h; intro v hv; simp at hv
 | prod a b iha ihb =>
  intro n x B vs h
  rw [qJ] at h
  obtain ⟨v1, v2, B1, B2, rfl, _, _, h1, h2⟩ := h
  intro v hv
  rcases List.mem_append.1 hv with hv | hv
  ·exact iha h1 v hv
  ·exact ihb h2 v hv
 | ptr e t _ =>
  intro n x B vs h
  rw [qJ, Rd] at h
  obtain ⟨b, off, cs, rfl, _⟩ := h
  intro v hv; simp at hv; subst hv; rfl
 | sl e t _ =>
  intro n x B vs h
  cases n with
  | zero =>
   rw [qJ, kB] at h
   obtain ⟨v, rfl, _, _, rfl, _⟩ := h
   intro v hv; simp at hv; subst hv; rfl
  | succ n =>
   rw [qJ] at h
   obtain ⟨v, rfl, _, _, rfl, _⟩ := h
   intro v hv; simp at hv; subst hv; rfl
theorem qHX {F : Nat -> Prop} {w : World} {r : Row} {B : Nat -> Prop} {v : Value} (h0 : r.hole = none \/ r.isMap = true) (h : zJ F w r B v) : v.oneCell' = true := by
 rcases h0 with h0 | h0
 ·exact qEJ (zJ.whole h0 h) v List.mem_cons_self
 ·obtain ⟨_, b, es, clk, rfl, _⟩ := zJ.map h0 h
  rfl
theorem Fam.one {F : Nat -> Prop} {w : World} {t : Ty} {m : Nat} {l : List t.T} {Bs : Nat -> Nat -> Prop} {vs : List Value} (h : Fam F w t m l Bs vs) : ∀ v, v ∈ vs -> v.oneCell' = true := by
 intro v hv
 obtain ⟨k, hk, rfl⟩ := List.getElem_of_mem hv
 have hk' : k < l.length * t.sz := by rw [<- h.1]; exact hk
 have hz : 0 < t.sz := by
  rcases Nat.eq_zero_or_pos t.sz with h0 | h0
  ·rw [h0] at hk'; omega
  ·exact h0
 have hi : k / t.sz < l.length := (Nat.div_lt_iff_lt_mul hz).2 hk'
 refine qEJ (h.2.2 (k / t.sz) hi) _ ?_
 have e1 : k = k / t.sz * t.sz + k % t.sz := by rw [Nat.mul_comm]; exact (Nat.div_add_mod k t.sz).symm
 have hm : k % t.sz < t.sz := Nat.mod_lt _ hz
 have : ((vs.drop (k / t.sz * t.sz)).take t.sz)[k % t.sz]? = some vs[k] := by
  rw [List.getElem?_take_of_lt hm, List.getElem?_drop, <- e1, List.getElem?_eq_getElem hk]
 exact List.mem_of_getElem? this
section
variable {φ : Fix} {ρ : Env} {st : St} {a : Act} {w : World} {P : Program} {C : Ctx}
def qPN (P : Program) (φ : Fix) (ρ : Env) (a : Act) (w : World) (u : Ty) (m : Nat) (st1 : St) (tx : TypeId) (v : Value) (b : List u.T) : Prop :=
 ∃ ρ1 K news Bs, Rep φ ρ1 st1 a w /\ ρ.Sim ρ1 /\ qI φ ρ1 st1 w K /\ Src P u.sz tx v b.length news w /\ (∀ i x, i < b.length -> Bs i x -> K x) /\ Fam ρ1.F w u m b Bs news
def qKp (P : Program) (tx : TypeId) (v : Value) : Prop := (∃ e', P.underlying tx = some (.slice e') /\ ∃ A n c, v = .slice A n c) \/ (P.underlying tx = some .string /\ ∃ s, v = .string s)
theorem qAR {u : Ty} {tx e' : TypeId} (hk : P.underlying tx = some (.slice e')) {F : Nat -> Prop} {m : Nat} {l : List u.T} {Bs : Nat -> Nat -> Prop} {vs : List Value} {b off c : Nat} (hf : Fam F w u m l Bs vs) (hc : qV w b off vs) :
  Src P u.sz tx (.slice (some ⟨b, off, none⟩) l.length c) l.length vs w :=
 Src.ofSlice w hk _ _ _ vs hf.1 (fun j v hv => by
  obtain ⟨hj, rfl⟩ := List.getElem?_eq_some_iff.1 hv
  rw [vA]; exact hc j hj) hf.one
theorem qCx {u : Ty} {tx e' : TypeId} (hk : P.underlying tx = some (.slice e')) (A : Option Addr) (c : Nat) : Src P u.sz tx (.slice A 0 c) 0 [] w := by
 cases A with
 | none => exact Src.ofNil w hk c
 | some A => exact Src.ofSlice w hk A 0 c [] (by simp) (fun j v hv => by simp at hv) (fun v hv => by cases hv)
theorem qEW (h : Rep φ ρ st a w) {u : Ty} (href : u.refs = false) {G : Nat -> Prop} {tx : TypeId} {v : Value} {l : List u.T} (ht : qKp P tx v) (hr : qDd G w u l v) (m : Nat) : qPN P φ ρ a w u m st tx v l := by
 obtain ⟨A, c, rfl, _⟩ := id hr
 obtain ⟨e', hk⟩ : ∃ e', P.underlying tx = some (.slice e') := by
  rcases ht with ⟨e', hk, _⟩ | ⟨_, s, hs⟩
  ·exact ⟨e', hk⟩
  ·cases hs
 rcases (qAM hr).2.2 with ⟨h0, h1⟩ | ⟨b, off, vs, rfl, h1, h2, h3⟩
 ·subst h1
  exact ⟨ρ, fun _ => False, [], fun _ _ => False, h, Env.Sim.refl ρ, qI.none _ _ _ _, qCx hk A c, fun _ _ h => by simp at h, Fam.nil⟩
 ·have hf : Fam ρ.F w u m l (fun _ _ => False) vs := ⟨h1, fun _ _ _ _ _ h => h.elim, fun i hi => qDg (B := fun _ => False) href (qBM (h3 i hi))⟩
  exact ⟨ρ, fun _ => False, vs, fun _ _ => False, h, Env.Sim.refl ρ, qI.none _ _ _ _, qAR hk hf h2, fun _ _ _ h => h.elim, hf⟩
theorem qJb {F : Nat -> Prop} {e : TypeId} {t : Ty} {M : Nat} {l : List t.T} {B : Nat -> Prop} {v : Value} (h : qJ F w (.sl e t) (M + 1) l B [v]) : ∃ A c, v = .slice A l.length c /\ ((l = [] /\ c = 0) \/
  ∃ b arr fr vs Bs, A = some ⟨b, 0, none⟩ /\ w.heap[b]? = some (.cells arr e fr) /\ qBq arr.size fr /\ c * t.sz <= arr.size /\ l.length <= c /\ B b /\ qV w b 0 vs /\ (∀ i x, i < l.length -> Bs i x -> B x /\ x ≠ b) /\ Fam F w t M l Bs vs) := by
 rw [qJ] at h
 obtain ⟨v', q1, A, c, q2, hh⟩ := h
 simp only [List.cons.injEq, and_true] at q1
 subst q1
 refine ⟨A, c, q2, hh.imp id ?_⟩
 rintro ⟨b, arr, fr, q3, q4, q5, q6, q7, q8, Bs, q9, q10, q11⟩
 obtain ⟨vs, h1, h2, h3⟩ := qJj (w := w) (b := b) (off := 0) (sz := t.sz) (Q := fun i cs => ∀ hi : i < l.length, qJ F w t M l[i] (Bs i) cs) l.length (fun i hi => by
  obtain ⟨cs, g1, g2⟩ := q11 i hi
  exact ⟨cs, jB g2, by simpa using g1, fun _ => g2⟩)
 exact ⟨b, arr, fr, vs, Bs, q3, q4, q5, q6, q7, q8, h2, q9, h1, q10, fun i hi => h3 i hi hi⟩
theorem qIT (h : Rep φ ρ st a w) {u : Ty} {y : CV} {v : Value} {tx : TypeId} {m : Nat} {st1 : St} {t' : Ty} {l : List t'.T} (hy : CVR ρ w y v) (ht : qKp P tx v) (hu : t' = u) (hs : kK st u y = some (some ⟨t', l⟩, m, st1)) :
  qPN P φ ρ a w t' m st1 tx v l := by
 subst hu
 have flat : ∀ {s : (e : TypeId) × (t : Ty) × List t.T}, xL st y = some s -> s.2.1.refs = false -> zQ ρ w y v -> ∀ m, qPN P φ ρ a w s.2.1 m st tx v s.2.2 := fun hs href hy m => qEW h href ht (wW h hs hy) m
 cases y with
 | dat e t l' =>
  simp only [kK, Option.some.injEq, Prod.mk.injEq, Sigma.mk.injEq] at hs
  obtain ⟨⟨rfl, hl⟩, rfl, rfl⟩ := hs
  obtain rfl := eq_of_heq hl
  have hr : qDd ρ.F w t l' v := hy
  cases href : t.refs with
  | false => exact qEW h href ht hr _
  | true =>
   simp only [if_true]
   obtain ⟨A, c, rfl, _⟩ := id hr
   obtain ⟨e', hk⟩ : ∃ e', P.underlying tx = some (.slice e') := by
    rcases ht with ⟨e', hk, _⟩ | ⟨_, s, hs⟩
    ·exact ⟨e', hk⟩
    ·cases hs
   rcases (qAM hr).2.2 with ⟨h0, h1⟩ | ⟨b, off, vs, rfl, h1, h2, h3⟩
   ·subst h1
    exact ⟨ρ, fun _ => False, [], fun _ _ => False, h, Env.Sim.refl ρ, qI.none _ _ _ _, qCx hk A c, fun _ _ h => by simp at h, Fam.nil⟩
   ·have hf : Fam ρ.F w t 0 l' (fun _ _ => False) vs := ⟨h1, fun _ _ _ _ _ h => h.elim, fun i hi => qBM (h3 i hi)⟩
    exact ⟨ρ, fun _ => False, vs, fun _ _ => False, h, Env.Sim.refl ρ, qI.none _ _ _ _, qAR hk hf h2, fun _ _ _ h => h.elim, hf⟩
 | own d =>
  simp only [kK] at hs
  split at hs
  ·rename_i r hr
   simp only [Option.some.injEq, Prod.mk.injEq, Sigma.mk.injEq] at hs
   obtain ⟨⟨e1, hl⟩, rfl, rfl⟩ := hs
   subst e1
   obtain rfl := eq_of_heq hl
   have hd := qM hr
   cases href : r.t.refs with
   | false =>
    simp only [Bool.false_eq_true, if_false]
    exact flat (s := ⟨r.e, r.t, r.l⟩) (by simp [xL, hr]) href hy 99
   | true =>
    simp only [if_true]
    have hv : v = ρ.val d := hy.1
    have hrow := zJ.whole (qN hr) (h.rows d r hd).2.2.1
    rw [<- hv] at hrow
    cases hm : r.m with
    | zero =>
     rw [hm, qJ, kB] at hrow
     obtain ⟨v', q1, hrd⟩ := hrow
     simp only [List.cons.injEq, and_true] at q1
     subst q1
     obtain ⟨A, c, rfl, _⟩ := id hrd
     obtain ⟨e', hk⟩ : ∃ e', P.underlying tx = some (.slice e') := by
      rcases ht with ⟨e', hk, _⟩ | ⟨_, s, hs⟩
      ·exact ⟨e', hk⟩
      ·cases hs
     rcases (qAM hrd).2.2 with ⟨h0, h1⟩ | ⟨b, off, vs, rfl, h1, h2, h3⟩
     ·rw [h1]
      exact ⟨ρ.off d, fun _ => False, [], fun _ _ => False, h.dropRow d, ⟨fun _ h => h, rfl, rfl, rfl, fun _ _ h => h⟩, qI.none _ _ _ _, qCx hk A c, fun _ _ h => by simp at h, Fam.nil⟩
     ·have hf : Fam ρ.F w r.t 0 r.l (fun _ _ => False) vs := ⟨h1, fun _ _ _ _ _ h => h.elim, fun i hi => qBM (h3 i hi)⟩
      exact ⟨ρ.off d, fun _ => False, vs, fun _ _ => False, h.dropRow d, ⟨fun _ h => h, rfl, rfl, rfl, fun _ _ h => h⟩, qI.none _ _ _ _, qAR hk hf h2, fun _ _ _ h => h.elim, hf⟩
    | succ M =>
     rw [hm] at hrow
     obtain ⟨A, c, rfl, hh⟩ := qJb hrow
     obtain ⟨e', hk⟩ : ∃ e', P.underlying tx = some (.slice e') := by
      rcases ht with ⟨e', hk, _⟩ | ⟨_, s, hs⟩
      ·exact ⟨e', hk⟩
      ·cases hs
     rcases hh with ⟨h1, _⟩ | ⟨b, arr, fr, vs, Bs, rfl, _, _, _, _, _, q1, q2, q3⟩
     ·rw [h1]
      exact ⟨ρ.off d, fun _ => False, [], fun _ _ => False, h.dropRow d, ⟨fun _ h => h, rfl, rfl, rfl, fun _ _ h => h⟩, qI.none _ _ _ _, qCx hk A c, fun _ _ h => by simp at h, Fam.nil⟩
     ·exact ⟨ρ.off d, ρ.ft d, vs, Bs, h.dropRow d, ⟨fun _ h => h, rfl, rfl, rfl, fun _ _ h => h⟩, h.take hd, qAR hk q3 q1, fun i x hi hx => (q2 i x hi hx).1, q3⟩
  ·cases hs
 | vw d lo hi =>
  simp only [kK] at hs
  split at hs
  ·rename_i r hr
   split at hs
   ·cases hs
   ·rename_i href
    simp only [Option.some.injEq, Prod.mk.injEq, Sigma.mk.injEq] at hs
    obtain ⟨⟨e1, hl⟩, rfl, rfl⟩ := hs
    subst e1
    obtain rfl := eq_of_heq hl
    exact flat (s := ⟨r.e, r.t, (r.l.take hi).drop lo⟩) (by simp [xL, hr]) (by simpa using href) hy 99
  ·cases hs
 | nref d i off =>
  simp only [kK] at hs
  split at hs
  ·rename_i s hr
   split at hs
   ·cases hs
   ·rename_i href
    simp only [Option.some.injEq, Prod.mk.injEq, Sigma.mk.injEq] at hs
    obtain ⟨⟨e1, hl⟩, rfl, rfl⟩ := hs
    subst e1
    obtain rfl := eq_of_heq hl
    exact flat hr (by simpa using href) hy 99
  ·cases hs
 | str s =>
  simp only [kK, Option.some.injEq, Prod.mk.injEq, Sigma.mk.injEq] at hs
  obtain ⟨⟨rfl, hl⟩, rfl, rfl⟩ := hs
  obtain rfl := eq_of_heq hl
  rw [show v = .string ⟨⟨s⟩⟩ from hy] at ht ⊢
  have hk : P.underlying tx = some .string := by
   rcases ht with ⟨_, _, _, _, _, hh⟩ | ⟨hk, _⟩
   ·cases hh
   ·exact hk
  have hlen : (s.map fun c => (c.toNat : Int)).length = (ByteArray.mk ⟨s⟩).size := by simp [ByteArray.size]
  refine ⟨ρ, fun _ => False, byteCells ⟨⟨s⟩⟩, fun _ _ => False, h, Env.Sim.refl ρ, qI.none _ _ _ _, ?_, fun _ _ _ h => h.elim, ?_⟩
  ·rw [hlen]; exact Src.ofString w hk ⟨⟨s⟩⟩
  ·refine ⟨by simp [byteCells, Ty.sz], fun _ _ _ _ _ h => h.elim, fun i hi => ?_⟩
   have hi' : i < s.length := by simpa using hi
   rw [qJ]
   simp only [Ty.sz, Nat.mul_one]
   rw [List.take_one]
   simp [byteCells, hi']
 | emp e t => simp [kK] at hs
 | _ => simp [kK] at hs
end
theorem qFw (need : Nat) : ∀ (r c : Nat), 256 <= c -> c <= 2 * need -> Builtin.growBy need r c <= 2 * need
 | 0, c, _, h => h
 | r + 1, c, h0, h => by
  unfold Builtin.growBy
  split
  ·exact h
  ·exact qFw need r _ (by omega) (by omega)
theorem qIg {need old : Nat} (h : old < need) : Builtin.nextslicecap need old <= 2 * need := by
 unfold Builtin.nextslicecap
 split
 ·omega
 ·split
  ·omega
  ·exact qFw need 4 old (by omega) (by omega)
theorem qDm (z : Array Value) (n : Nat) : (Builtin.zeroCells z n).size = n * z.size := by simp [Builtin.zeroCells]
section
variable {φ : Fix} {ρ : Env} {st : St} {a : Act} {w : World} {P : Program} {C : Ctx}
theorem qD8 {t tx ty e : TypeId} {i : TypeInfo} (ht : P.underlying t = some (.slice e)) (hi : P.info? e = some i) {b0 sLen sCap : Nat} {x : Value} {n : Nat} {news : List Value} (hs : Src P i.size tx x n news w) (hroom : sLen + n <= sCap) {w' : World}
  (hst : (storeCells ⟨b0, sLen * i.size, none⟩ news).run P w = .ok () w') :
  (Builtin.append_ #[t, tx] ty #[.slice (some ⟨b0, 0, none⟩) sLen sCap, x]).run P w = .ok (.slice (some ⟨b0, 0, none⟩) (sLen + n) sCap) w' := by
 rcases hs.kind with ⟨e', hk⟩ | hk <;> simp [Builtin.append_, run_underlying ht, run_underlying hk, sizeOf, typeInfo, hi, hs.len, hroom, hs.cells, vA, hst]
theorem qC9 (hC : jK P C) (h : Rep φ ρ st a w) {t tx ty e : TypeId} {ei : TI} {U : Ty} (ht : qH9 C t = some (e, ei, U)) (hsz : ei.size = U.sz) {v : Value} {al b : List U.T} {K K1 : Nat -> Prop} {news : List Value} {Bs : Nat -> Nat -> Prop} {M : Nat}
  (hK : qI φ ρ st w K) (hsrc : Src P U.sz tx v b.length news w) (hBs : ∀ i x, i < b.length -> Bs i x -> K x) (hfam : Fam ρ.F w U M b Bs news) {A : Option Addr} {sCap : Nat} (hlim : al.length + b.length <= qIl ei)
  (hbase : (al = [] /\ sCap = 0) \/ ∃ b0 arr fr olds Cs, A = some ⟨b0, 0, none⟩ /\ w.heap[b0]? = some (.cells arr e fr) /\ qBq arr.size fr /\ sCap * U.sz <= arr.size /\ al.length <= sCap /\ K1 b0 /\ qV w b0 0 olds /\ (∀ i x, i < al.length -> Cs i x -> K1 x /\ x ≠ b0) /\ Fam ρ.F w U M al Cs olds)
  (hK1 : qI φ ρ st w K1) (hd : ∀ y, K1 y -> ¬ K y) {d : Nat} :
  Ans P φ (Builtin.append_ #[t, tx] ty #[.slice A al.length sCap, v]) a w (st.addRow d { e := e, t := U, l := al ++ b, m := M + 1 }) (.c (.own d)) := by
 obtain ⟨hu, hei, hty⟩ := qD4 hC ht
 have T := hC.ti e ei hei
 obtain ⟨inf, i1, i2, i3, zv, i4, i5, i6, _⟩ := T.inf
 have hisz : inf.size = U.sz := i2.trans hsz
 obtain ⟨l1, l2⟩ := qFn hlim
 have hsrc' : Src P inf.size tx v b.length news w := by rw [hisz]; exact hsrc
 have hown : ∀ {x : Value} {B : Nat -> Prop} {w' : World}, x.oneCell' = true -> SVR (ρ.setRow d x U B) w' (.c (.own d)) x := fun hx => by simp [SVR, qEH, CVR, zQ, Env.setRow, hx]
 by_cases hroom : al.length + b.length <= sCap
 ·rcases hbase with ⟨ha, h0⟩ | ⟨b0, arr, fr, olds, Cs, rfl, g1, g2, g3, g4, g5, g6, g7, g8⟩
  ·
   subst ha; subst h0
   have hb : b = [] := by cases b with
    | nil => rfl
    | cons _ _ => simp at hroom
   subst hb
   have hn : news = [] := by have := hfam.1; cases news with
    | nil => rfl
    | cons _ _ => simp at this
   subst hn
   have hrun := run_append_nothing w t tx ty e inf hu i1 A 0 0 (Nat.le_refl _) v hsrc'
   have hrow : qJ ρ.F w (.sl e U) (M + 1) ([] : List U.T) (fun _ => False) [.slice A 0 0] := by rw [qJ]; exact ⟨_, rfl, A, 0, rfl, .inl ⟨rfl, rfl⟩⟩
   exact ⟨_, _, _, hrun, h.addRow (jO.refl w) (d := d) (r := { e := e, t := U, l := ([] : List U.T), m := M + 1 }) rfl hrow (fun hh => absurd rfl hh) (fun _ h => h.elim) (fun _ _ _ _ _ _ h => h) (fun _ _ _ h => h), hown rfl⟩
  ·
   have hlen : news.length = b.length * U.sz := hfam.1
   have hfit : al.length * U.sz + news.length <= arr.size := by
    rw [hlen, <- Nat.add_mul]
    exact Nat.le_trans (Nat.mul_le_mul_right _ hroom) g3
   obtain ⟨w', q1, q2, q3, q4, q5⟩ := wC (P := P) (off := al.length * U.sz) g1 g2 hfit hsrc.one
   have hrun := qD8 (ty := ty) hu i1 hsrc' hroom (w' := w') (by rw [hisz]; exact q1)
   have hKK : qI φ ρ st w fun y => K1 y \/ K y := hK1.or hK
   have h' := h.alter hKK (w' := w') (by rw [q2]; exact Nat.le_refl _) q3 (fun y _ hy => q4 y (by rintro rfl; exact hy (.inl g5)))
   have aF : qC ρ.F w w' := fun y o hy ho => by rw [q4 y (by rintro rfl; exact (hK1.here _ g5).1 hy)]; exact ho
   have f1 : Fam ρ.F w' U M al Cs olds := g8.step (fun _ h => h) aF fun i hi y o hy ho => by rw [q4 y (g7 i y hi hy).2]; exact ho
   have f2 : Fam ρ.F w' U M b Bs news := hfam.step (fun _ h => h) aF fun i hi y o hy ho => by rw [q4 y (by rintro rfl; exact hd _ g5 (hBs i _ hi hy))]; exact ho
   have f3 := f1.append f2 fun i j x hi hj hx hx' => hd x (g7 i x hi hx).1 (hBs j x hj hx')
   have hol : olds.length = al.length * U.sz := g8.1
   have hrow : qJ ρ.F w' (.sl e U) (M + 1) (al ++ b) (fun y => K1 y \/ K y) [.slice (some ⟨b0, 0, none⟩) (al ++ b).length sCap] := by
    refine qAm q5 ⟨g2.1, fun o ho => g2.2 o ?_⟩ ?_ (by simpa using hroom) (vs := olds ++ news) (fun j hj => ?_) f3.1 (.inl g5) _ (fun i x hi hx => ?_) f3.2.1 f3.2.2
    ·simp only [List.size_toArray, List.length_append, List.length_take, List.length_drop, Array.length_toList] at ho; omega
    ·simp only [List.size_toArray, List.length_append, List.length_take, List.length_drop, Array.length_toList]; omega
    ·simp only [List.getElem?_toArray]
     rw [yG]
     have m1 : min (al.length * U.sz) arr.size = al.length * U.sz := by omega
     simp only [List.length_take, Array.length_toList, m1]
     simp only [List.length_append, Nat.add_mul] at hj
     by_cases hj1 : j < al.length * U.sz
     ·rw [if_pos hj1, List.getElem?_append_left (by omega), List.getElem?_take_of_lt hj1]
      have hc := g6 j (by omega)
      rw [Nat.zero_add, jV] at hc
      obtain ⟨arr0, e0, fr0, z1, z2⟩ := hc
      rw [g1] at z1
      simp only [Option.some.injEq, Obj.cells.injEq] at z1
      obtain ⟨rfl, _, _⟩ := z1
      rw [Array.getElem?_toList, z2, List.getElem?_eq_getElem (by omega)]
     ·rw [if_neg hj1, if_pos (by omega), List.getElem?_append_right (by omega), hol]
    ·split at hx
     ·rename_i hi'
      exact ⟨.inl (g7 i x hi' hx).1, (g7 i x hi' hx).2⟩
     ·rename_i hi'
      have hk := hBs _ x (by simp only [List.length_append] at hi; omega) hx
      exact ⟨.inr hk, by rintro rfl; exact hd _ g5 hk⟩
   rw [List.length_append] at hrow
   refine ⟨_, _, _, hrun, h'.addRow (jO.refl w') (d := d) (r := { e := e, t := U, l := al ++ b, m := M + 1 }) rfl hrow (vD (n := M + 1) hrow (by omega)) (fun y hy => ?_) (fun e' r' _ he y hy => hKK.row e' r' he y hy) (fun b' x hx => hKK.box b' x hx), hown rfl⟩
   obtain ⟨z1, z2, z3⟩ := hKK.here y hy
   exact ⟨z1, by rw [q2]; exact z2, z3⟩
 ·
  have hlt : sCap < al.length + b.length := by omega
  obtain ⟨olds, Cs, K2, hold, f1, hCs, hK2⟩ : ∃ (olds : List Value) (Cs : Nat -> Nat -> Prop) (K2 : Nat -> Prop), (Builtin.firstCells inf.size al.length (.slice A al.length sCap)).run P w.drew = .ok olds.toArray w.drew /\ Fam ρ.F w U M al Cs olds /\ (∀ i x, i < al.length -> Cs i x -> K2 x) /\ (∀ y, K2 y -> K1 y) := by
   rcases hbase with ⟨rfl, rfl⟩ | ⟨b0, arr, fr, olds, Cs, rfl, g1, g2, g3, g4, g5, g6, g7, g8⟩
   ·refine ⟨[], fun _ _ => False, fun _ => False, ?_, Fam.nil, fun _ _ h => by simp at h, fun _ h => h.elim⟩
    cases A with
    | none => exact run_firstCells_none w.drew inf.size 0 0 0
    | some A => exact run_firstCells_some w.drew inf.size 0 A 0 0 [] (by simp) (fun j v hv => by simp at hv)
   ·refine ⟨olds, Cs, K1, ?_, g8, fun i x hi hx => (g7 i x hi hx).1, fun _ h => h⟩
    refine run_firstCells_some w.drew inf.size al.length ⟨b0, 0, none⟩ al.length sCap olds (by rw [hisz]; exact g8.1) (fun j v hv => ?_)
    obtain ⟨hj, rfl⟩ := List.getElem?_eq_some_iff.1 hv
    have := g6 j hj
    rw [vA]
    exact this
  have hcap : Builtin.nextslicecap (al.length + b.length) sCap * inf.bytes <= 281474976710656 := by
   have h1 := qIg hlt
   have h2 : Builtin.nextslicecap (al.length + b.length) sCap * inf.bytes <= 2 * (al.length + b.length) * inf.bytes := Nat.mul_le_mul_right _ h1
   rw [i3] at h2 ⊢
   have h3 : 2 * (al.length + b.length) * ei.bytes = 2 * (ei.bytes * (al.length + b.length)) := by rw [Nat.mul_assoc, Nat.mul_comm (al.length + b.length)]
   omega
  have hrun := run_append_grow_src (P := P) w t tx ty e inf zv hu i1 i4 A al.length sCap olds hold v b.length news hsrc' hlt (by omega) hcap
  have hge : al.length + b.length <= grownCap w (al.length + b.length) sCap e := by simp only [grownCap, Question.cut]; omega
  generalize hgc : grownCap w (al.length + b.length) sCap e = cap at hrun hge
  generalize harr : (olds ++ news).toArray ++ Builtin.zeroCells zv.cells (cap - (al.length + b.length)) = arr at hrun
  have g : jO w (w.drew.alloc (.cells arr e)) := ⟨by show _ <= (w.heap.push _).size; simp, fun y hy => qBX hy, ⟨rfl, rfl, rfl⟩⟩
  have hb : (w.drew.alloc (.cells arr e)).heap[w.heap.size]? = some (.cells arr e (0, 0)) := by
   show (w.heap.push (.cells arr e))[w.heap.size]? = _
   simp
  have f3 := (f1.append hfam fun i j x hi hj hx hx' => hd x (hK2 x (hCs i x hi hx)) (hBs j x hj hx')).step (fun _ h => h) (g.agree _) (fun i _ => g.agree _)
  have hKK : qI φ ρ st w fun y => K2 y \/ K y := (hK1.sub hK2).or hK
  have hasz : arr.size = cap * U.sz := by
   have h1 := f1.1
   have h2 := hfam.1
   rw [<- harr]
   simp only [Array.size_append, List.size_toArray, List.length_append, qDm, i6, hsz, h1, h2]
   rw [<- Nat.add_mul, <- Nat.add_mul]
   congr 1
   omega
  have hrow : qJ ρ.F (w.drew.alloc (.cells arr e)) (.sl e U) (M + 1) (al ++ b) (fun y => y = w.heap.size \/ (K2 y \/ K y)) [.slice (some ⟨w.heap.size, 0, none⟩) (al ++ b).length cap] := by
   refine qAm hb (qBq.zero _) (by rw [hasz]; exact Nat.le_refl _) (by simpa using hge) (vs := olds ++ news) (fun j hj => ?_) f3.1 (.inl rfl) _ (fun i x hi hx => ?_) f3.2.1 f3.2.2
   ·rw [<- harr, Array.getElem?_append_left (by rw [List.size_toArray, f3.1]; exact hj)]
    simp
   ·have hk : K2 x \/ K x := by
     split at hx
     ·rename_i hi'; exact .inl (hCs i x hi' hx)
     ·rename_i hi'; exact .inr (hBs _ x (by simp only [List.length_append] at hi; omega) hx)
    exact ⟨.inr hk, by have := (hKK.here x hk).2.1; omega⟩
  rw [List.length_append] at hrow
  exact ⟨_, _, _, hrun, h.newRow g (r := { e := e, t := U, l := al ++ b, m := M + 1 }) (K := fun y => K2 y \/ K y) (nb := w.heap.size) hKK (Nat.le_refl _) (by show _ < (w.heap.push _).size; simp) rfl hrow (by show M + 1 ≠ 0; omega), hown rfl⟩
end
theorem Fam.take {F : Nat -> Prop} {w : World} {t : Ty} {m : Nat} {l : List t.T} {Bs : Nat -> Nat -> Prop} {vs : List Value} (h : Fam F w t m l Bs vs) (k : Nat) (hk : k <= l.length) : Fam F w t m (l.take k) Bs (vs.take (k * t.sz)) := by
 have hlen : (l.take k).length = k := by simp; omega
 have hle : k * t.sz <= l.length * t.sz := Nat.mul_le_mul_right _ hk
 refine ⟨by rw [List.length_take, h.1, hlen]; exact Nat.min_eq_left hle, fun i j x hi hj => h.2.1 i j x (by omega) (by omega), fun i hi => ?_⟩
 have hi' : i < k := by omega
 have := h.2.2 i (by omega)
 rw [List.getElem_take]
 have e1 : ((vs.take (k * t.sz)).drop (i * t.sz)).take t.sz = (vs.drop (i * t.sz)).take t.sz := by
  have h3 : (i + 1) * t.sz <= k * t.sz := Nat.mul_le_mul_right _ hi'
  rw [Nat.add_mul] at h3
  rw [List.drop_take, List.take_take, Nat.min_eq_left (by omega)]
 rw [e1]; exact this
section
variable {φ : Fix} {ρ : Env} {st st1 : St} {a : Act} {w : World} {P : Program} {C : Ctx}
def Env.narrow (ρ : Env) (d : Nat) (X : Nat -> Prop) : Env := { ρ with ft := fun e => if e = d then (fun y => ρ.ft d y /\ ¬ X y) else ρ.ft e }
theorem kI {ρ : Env} {d : Nat} {X : Nat -> Prop} {e y : Nat} (h : (ρ.narrow d X).ft e y) : ρ.ft e y := by
 simp only [Env.narrow] at h
 split at h
 ·rename_i he; subst he; exact h.1
 ·exact h
theorem Rep.narrowD (h : Rep φ ρ st a w) {d : Nat} {r r' : Row} (hd : qL d st.rows = some r) {X : Nat -> Prop} (ht : r'.t = r.t) (hnew : zJ ρ.F w r' (fun y => ρ.ft d y /\ ¬ X y) (ρ.val d)) (hL : r'.l ≠ [] -> ∃ b n c, xP (ρ.val d) b n c) :
  Rep φ (ρ.narrow d X) { st with rows := put d r' st.rows } a w := by
 have le : ρ.Le (ρ.narrow d X) := ⟨fun _ h => h, fun _ h => h, rfl, rfl, rfl⟩
 have hlk : ∀ {e re}, qL e (put d r' st.rows) = some re -> (e = d /\ re = r') \/ (e ≠ d /\ qL e st.rows = some re) := fun {e re} he => by
  rw [qP] at he
  by_cases hh : e = d
  ·rw [if_pos hh] at he; simp only [Option.some.injEq] at he; exact .inl ⟨hh, he.symm⟩
  ·rw [if_neg hh] at he; exact .inr ⟨hh, he⟩
 have old : ∀ {e re}, qL e (put d r' st.rows) = some re -> ∃ re', qL e st.rows = some re' := fun {e re} he => by
  rcases hlk he with ⟨rfl, _⟩ | ⟨_, he⟩
  ·exact ⟨r, hd⟩
  ·exact ⟨re, he⟩
 exact {
  size := h.size, nodef := h.nodef
  on := fun e he => by
   rw [qP]
   by_cases hh : e = d
   ·exact ⟨_, by rw [if_pos hh]⟩
   ·rw [if_neg hh]; exact h.on e he
  slots := fun s v hs => ⟨(h.slots s v hs).1, qDT le (h.slots s v hs).2⟩
  rows := fun e re he => by
   rcases hlk he with ⟨rfl, rfl⟩ | ⟨hne, he⟩
   ·exact ⟨trivial, (h.rows _ r hd).2.1.trans ht.symm, by simpa [Env.narrow] using hnew, hL⟩
   ·obtain ⟨q1, q2, q3, q4⟩ := h.rows e re he
    exact ⟨q1, q2, by simp only [Env.narrow, if_neg hne]; exact q3, q4⟩
  boxes := fun b x hx => by
   obtain ⟨arr, fr, h1, h2, h3⟩ := h.boxes b x hx
   exact ⟨arr, fr, h1, h2, h3.imp fun _ _ => qBo le⟩
  rsep := fun e e' r1 r2 h1 h2 hn y hy hy' => by
   obtain ⟨q1, e1⟩ := old h1
   obtain ⟨q2, e2⟩ := old h2
   exact h.rsep e e' q1 q2 e1 e2 hn y (kI hy) (kI hy')
  rF := fun e r1 h1 y hy => by obtain ⟨q1, e1⟩ := old h1; exact h.rF e q1 e1 y (kI hy)
  rb := fun e r1 b x h1 h2 hf => by obtain ⟨q1, e1⟩ := old h1; exact h.rb e q1 b x e1 h2 (kI hf)
  bsep := h.bsep, bF := h.bF, Fbd := h.Fbd, F0 := h.F0, grow := h.grow, io := h.io, tab := h.tab, keep := h.keep, lentR := h.lentR, lentB := h.lentB }
theorem Rep.hole (h : Rep φ ρ st a w) {d : Nat} {r : Row} (hd : qL d st.rows = some r) (h0 : r.hole = none) {M : Nat} (hm : r.m = M + 1) {b n c i off : Nat} (hl : xP (ρ.val d) b n c) (hi : i < n)
  {e : TypeId} {u : Ty} {q : List u.T} (hat : r.t.slAt (nth r.t r.l i) off = some ⟨e, u, q⟩) (hmk : off < zF) :
  ∃ X v, (∀ y, X y -> ρ.ft d y) /\ w.cell? ⟨b, i * r.t.sz + off, none⟩ = some v /\ qJ ρ.F w (.sl e u) M q X [v] /\ Rep φ (ρ.narrow d X) { st with rows := put d { r with hole := some (i, off) } st.rows } a w := by
 have ho := zJ.whole h0 (h.rows d r hd).2.2.1
 rw [hm, qJ] at ho
 obtain ⟨v0, e1, A, cc, e2, hh⟩ := ho
 simp only [List.cons.injEq, and_true] at e1
 subst e1
 rw [hl] at e2
 simp only [Value.slice.injEq] at e2
 obtain ⟨rfl, rfl, rfl⟩ := e2
 rcases hh with ⟨h0, _⟩ | ⟨b', arr, fr, e3, h2, h3, h4, h5, h6, Bs, h7, h8, h9⟩
 ·rw [h0] at hi; simp at hi
 simp only [Option.some.injEq, Addr.mk.injEq, and_true] at e3
 subst e3
 obtain ⟨vs, g1, g2⟩ := h9 i hi
 rw [wQ hi] at hat
 obtain ⟨X, v, k1, k2, k3, k4⟩ := qKx hat g2
 have bn : ¬ X b := fun hx => (h7 i b hi (k1 b hx)).2 rfl
 have hnew : zJ ρ.F w { r with hole := some (i, off) } (fun y => ρ.ft d y /\ ¬ X y) (ρ.val d) := by
  refine .inr (.inl ⟨hmk, M, hm, b, c, arr, fr, hl, h2, h3, h4, h5, ⟨h6, bn⟩, fun j y => Bs j y /\ (j = i -> ¬ X y), fun j y hj hy => ⟨⟨(h7 j y hj hy.1).1, fun hx => ?_⟩, (h7 j y hj hy.1).2⟩, fun j k y hj hk h1 h2 => h8 j k y hj hk h1.1 h2.1, fun j hj hji => ?_, hi, vs, g1, qKy (fun y hy => ⟨hy.1, fun _ => hy.2⟩) k4⟩)
  ·by_cases hji : j = i
   ·exact hy.2 hji hx
   ·exact hji (h8 j i y hj hi hy.1 (k1 y hx))
  ·obtain ⟨us, q1, q2⟩ := h9 j hj
   exact ⟨us, q1, zP (fun y hy => ⟨hy, fun hh => absurd hh hji⟩) q2⟩
 refine ⟨X, v, fun y hy => (h7 i y hi (k1 y hy)).1, ?_, k3, ?_⟩
 ·obtain ⟨hj, hje⟩ := List.getElem?_eq_some_iff.1 k2
  have := g1 off hj
  rw [hje] at this
  exact this
 exact h.narrowD hd (r' := { r with hole := some (i, off) }) rfl hnew (h.rows d r hd).2.2.2
theorem Rep.unfz (h : Rep φ ρ st a w) {d : Nat} {r : Row} (hd : qL d st.rows = some r) {k : Nat} (h0 : r.hole = some (k, wT)) {b n c i : Nat} (hl : xP (ρ.val d) b n c) (hi : i < n) (hk : k <= i) :
  ∃ (X : Nat -> Prop) (vs : List Value) (M : Nat) (hi' : i < r.l.length), r.m = M + 1 /\ qV w b (i * r.t.sz) vs /\ qJ ρ.F w r.t M r.l[i] X vs /\
   Rep φ (ρ.narrow d X) { st with rows := put d { r with hole := some (i + 1, wT) } st.rows } a w /\ qI φ (ρ.narrow d X) { st with rows := put d { r with hole := some (i + 1, wT) } st.rows } w X := by
 obtain ⟨M, hm, A, cc, e2, hlc, hh⟩ := zJ.fz h0 (h.rows d r hd).2.2.1
 rw [hl] at e2
 simp only [Value.slice.injEq] at e2
 obtain ⟨rfl, rfl, rfl⟩ := e2
 rcases hh with h1 | ⟨b', arr, fr, e3, h2, h3, h4, h6, Bs, h7, h8, h9⟩
 ·rw [h1] at hi; simp at hi
 simp only [Option.some.injEq, Addr.mk.injEq, and_true] at e3
 subst e3
 obtain ⟨vs, g1, g2⟩ := h9 i hi hk
 have bn : ¬ Bs i b := fun hx => (h7 i b hk hi hx).2 rfl
 have hnew : zJ ρ.F w { r with hole := some (i + 1, wT) } (fun y => ρ.ft d y /\ ¬ Bs i y) (ρ.val d) := by
  refine zJ.mkFz rfl hm ⟨_, c, hl, hlc, .inr ⟨b, arr, fr, rfl, h2, h3, h4, ⟨h6, bn⟩, Bs, fun j x hj hjl hx => ⟨⟨(h7 j x (by omega) hjl hx).1, fun hx' => ?_⟩, (h7 j x (by omega) hjl hx).2⟩, fun i' j x hi' hj => h8 i' j x (by omega) (by omega), fun j hj hjk => h9 j hj (by omega)⟩⟩
  have := h8 j i x (by omega) hk hjl hi hx hx'
  omega
 refine ⟨Bs i, vs, M, hi, hm, g1, g2, h.narrowD hd (r' := { r with hole := some (i + 1, wT) }) rfl hnew (h.rows d r hd).2.2.2, ?_, ?_, ?_⟩
 ·intro e re he y hy hx
  rw [qP] at he
  by_cases hh : e = d
  ·subst hh; simp only [Env.narrow, if_true] at hy; exact hy.2 hx
  ·rw [if_neg hh] at he
   simp only [Env.narrow, if_neg hh] at hy
   exact h.rsep e d re r he hd hh y hy (h7 i y hk hi hx).1
 ·intro e x he hx
  exact h.rb d r e x hd he (h7 i _ hk hi hx).1
 ·intro y hy
  exact h.rF d r hd y (h7 i y hk hi hy).1
def MS (F : Nat -> Prop) (w : World) (M : Nat) : List CV -> (Nat -> Prop) -> List Value -> Prop
 | [], _, [] => True
 | c :: cs, B, v :: vs => ∃ B1 B2 : Nat -> Prop, (∀ x, B1 x -> B x /\ ¬ B2 x) /\ (∀ x, B2 x -> B x) /\ (match c with
   | .dat e t l => qJ F w (.sl e t) M l B1 [v]
   | _ => ∀ ρ : Env, (∀ y, F y -> ρ.F y) -> CVR ρ w c v) /\ MS F w M cs B2 vs
 | _, _, _ => False
theorem qMi {F : Nat -> Prop} {M : Nat} : ∀ {c1 c2 : List CV} {B B1 B2 : Nat -> Prop} {v1 v2 : List Value}, (∀ x, B1 x -> B x /\ ¬ B2 x) -> (∀ x, B2 x -> B x) -> MS F w M c1 B1 v1 -> MS F w M c2 B2 v2 -> MS F w M (c1 ++ c2) B (v1 ++ v2)
 | [], c2, B, B1, B2, [], v2, _, d2, _, h2 => by
  have up : ∀ {cs : List CV} {B B' : Nat -> Prop} {vs : List Value}, (∀ x, B x -> B' x) -> MS F w M cs B vs -> MS F w M cs B' vs := by
   intro cs B B' vs hB h
   cases cs <;> cases vs <;> first | exact h | skip
   obtain ⟨C1, C2, k1, k2, k3, k4⟩ := h
   exact ⟨C1, C2, fun x hx => ⟨hB _ (k1 x hx).1, (k1 x hx).2⟩, fun x hx => hB _ (k2 x hx), k3, k4⟩
  exact up d2 h2
 | [], _, _, _, _, _ :: _, _, _, _, h1, _ => h1.elim
 | _ :: _, _, _, _, _, [], _, _, _, h1, _ => h1.elim
 | c :: c1, c2, B, B1, B2, v :: v1, v2, d1, d2, h1, h2 => by
  obtain ⟨C1, C2, k1, k2, k3, k4⟩ := h1
  refine ⟨C1, fun x => C2 x \/ B2 x, fun x hx => ⟨(d1 x (k1 x hx).1).1, fun hh => hh.elim (k1 x hx).2 (d1 x (k1 x hx).1).2⟩, fun x hx => hx.elim (fun hx => (d1 x (k2 x hx)).1) (d2 x), k3, ?_⟩
  exact qMi (B := fun x => C2 x \/ B2 x) (fun x hx => ⟨.inl hx, (d1 x (k2 x hx)).2⟩) (fun x hx => .inr hx) k4 h2
theorem qM8 {F : Nat -> Prop} {M : Nat} : ∀ {t : Ty} {x : t.T} {B : Nat -> Prop} {vs : List Value}, qJ F w t M x B vs -> MS F w M (t.cells x) B vs := by
 intro t
 have one : ∀ {c : CV} {B : Nat -> Prop} {v : Value}, (∀ e t l, c ≠ .dat e t l) -> (∀ ρ : Env, (∀ y, F y -> ρ.F y) -> CVR ρ w c v) -> MS F w M [c] B [v] := by
  intro c B v hn hc
  refine ⟨fun _ => False, fun _ => False, fun _ h => h.elim, fun _ h => h.elim, ?_, trivial⟩
  split
  ·exact absurd rfl (hn _ _ _)
  ·exact hc
 induction t with
 | int k => intro x B vs h; rw [qJ] at h; subst h; exact one (fun _ _ _ h => by cases h) fun _ _ => rfl
 | bool => intro x B vs h; rw [qJ] at h; subst h; exact one (fun _ _ _ h => by cases h) fun _ _ => rfl
 | str => intro x B vs h; rw [qJ] at h; subst h; exact one (fun _ _ _ h => by cases h) fun _ _ => rfl
 | unit => intro x B vs h; rw [qJ] at h; subst h; trivial
 | ptr e t _ =>
  intro x B vs h
  have hl := jB h
  rw [qJ] at h
  match vs, hl with
  | [v], _ =>
   refine one (fun _ _ _ h => by cases h) fun ρ hF => ?_
   have := qF4 (ρ := ρ) (zK hF (qC.refl _ _) h)
   exact zL this.1
 | prod a b iha ihb =>
  intro x B vs h
  rw [qJ] at h
  obtain ⟨v1, v2, B1, B2, rfl, d1, d2, h1, h2⟩ := h
  exact qMi d1 d2 (iha h1) (ihb h2)
 | sl e t _ =>
  intro x B vs h
  have hl := jB h
  match vs, hl with
  | [v], _ => exact ⟨B, fun _ => False, fun y hy => ⟨hy, fun h => h⟩, fun _ h => h.elim, h, trivial⟩
theorem qI.addRow {d : Nat} {r : Row} {v : Value} {t : Ty} {B Z : Nat -> Prop} (h : qI φ ρ st w Z) (hz : ∀ y, Z y -> ¬ B y) : qI φ (ρ.setRow d v t B) (st.addRow d r) w Z where
 row := fun e re he y hy hy' => by
  simp only [St.addRow, qP] at he
  simp only [Env.setRow] at hy
  by_cases hh : e = d
  ·rw [if_pos hh] at hy; exact hz y hy' hy
  ·rw [if_neg hh] at hy he; exact h.row e re he y hy hy'
 box := fun b x hx => by obtain ⟨y, hy, _⟩ := qK (st := st) hx; exact h.box b y hy
 here := h.here
theorem qAE {M : Nat} (hM : M ≠ 0) : ∀ {cs : List CV} {vs : List Value} {j : Nat} {ρ : Env} {st : St} {B : Nat -> Prop}, Rep φ ρ st a w -> qI φ ρ st w B -> MS ρ.F w M cs B vs ->
  ∃ ρ', Rep φ ρ' (xB M st j cs).2 a w /\ ρ'.F = ρ.F /\ (∀ d, d < j -> ρ'.val d = ρ.val d) /\ jC (CVR ρ' w) (xB M st j cs).1 vs
 | [], [], j, ρ, st, B, h, _, _ => ⟨ρ, h, rfl, fun _ _ => rfl, trivial⟩
 | [], _ :: _, _, _, _, _, _, _, hs => hs.elim
 | _ :: _, [], _, _, _, _, _, _, hs => hs.elim
 | c :: cs, v :: vs, j, ρ, st, B, h, hB, hs => by
  obtain ⟨B1, B2, d1, d2, h1, h2⟩ := hs
  have plain : (∀ ρ' : Env, (∀ y, ρ.F y -> ρ'.F y) -> CVR ρ' w c v) -> ∃ ρ', Rep φ ρ' (xB M st (j + 1) cs).2 a w /\ ρ'.F = ρ.F /\ (∀ d, d < j -> ρ'.val d = ρ.val d) /\ jC (CVR ρ' w) (c :: (xB M st (j + 1) cs).1) (v :: vs) := fun hc => by
   obtain ⟨ρ', p1, p2, p3, p4⟩ := qAE hM (j := j + 1) h (hB.sub d2) h2
   exact ⟨ρ', p1, p2, fun d hd => p3 d (by omega), hc ρ' (fun y hy => by rw [p2]; exact hy), p4⟩
  cases c with
  | dat e t l =>
   have hB1 : qI φ ρ st w B1 := hB.sub fun y hy => (d1 y hy).1
   have hadd := h.addRow (jO.refl w) (d := j) (r := { e := e, t := t, l := l, m := M }) (v := v) (B := B1) rfl h1 (vD h1 hM) hB1.here (fun e r' _ he y hy => hB1.row e r' he y hy) (fun b x hx => hB1.box b x hx)
   have hap := (hB.sub d2).addRow (d := j) (r := { e := e, t := t, l := l, m := M }) (v := v) (t := t) (B := B1) fun y hy hh => (d1 y hh).2 hy
   obtain ⟨ρ', p1, p2, p3, p4⟩ := qAE hM (j := j + 1) hadd hap h2
   refine ⟨ρ', p1, p2, fun d hd => (p3 d (by omega)).trans (by simp [Env.setRow, show d ≠ j by omega]), ⟨?_, qEJ h1 v List.mem_cons_self⟩, p4⟩
   rw [p3 j (by omega)]
   simp [Env.setRow]
  | _ => exact plain h1
theorem qML {p : CV} {q : Nat × Nat × Row × Nat} (h : st.fz? p = some q) : p = .pelt q.1 q.2.1 0 /\ qL q.1 st.rows = some q.2.2.1 /\ q.2.2.1.hole = some (q.2.2.2, wT) := by
 unfold St.fz? at h
 split at h
 ·rename_i d i
  split at h
  ·rename_i r hr
   split at h
   ·rename_i k off hh
    split at h
    ·rename_i he
     subst he
     simp only [Option.some.injEq] at h; subst h
     exact ⟨rfl, hr, hh⟩
    ·cases h
   ·cases h
  ·cases h
 ·cases h
theorem qHl (hC : jK P C) (h : Rep φ ρ st a w) {t : TypeId} {base : Nat} {p : CV} {q : Nat × Nat × Row × Nat} {u : Value} {o : R1} (hp : CVR ρ w p u) (hq : st.fz? p = some q) (hv : qMF C st base t q = some o) (hg : o.g = true) :
  Ans P φ (Instr.loadAt t u) a w o.st o.v /\ ∃ x, ∀ w1, jO w w1 -> (Instr.loadAt t u).run P w1 = .ok x w1 := by
 obtain ⟨rfl, hd, hh⟩ := qML hq
 obtain ⟨d, i, r, k⟩ := q
 simp only at hd hh hp
 unfold qMF at hv
 split at hv
 ·cases hv
 rename_i hm
 split at hv
 ·rename_i g n hn
  split at hv
  ·cases hv
  rename_i hsz
  simp only at hv hm hsz
  split at hv
  ·rename_i v hmk
   simp only [Option.some.injEq] at hv
   subst hv
   simp only [decide_eq_true_eq] at hg
   obtain ⟨b, n', c', e1, hi, e2⟩ := (hp : zQ ρ w (.pelt d i 0) u)
   have hty : (ρ.ty d) = r.t := (h.rows d r hd).2.1
   rw [hty] at e2
   obtain ⟨X, vs, M, hi', hM, g1, g2, g3, g4⟩ := h.unfz hd hh e1 hi hg
   have hk := g3.kill (CV.nested d)
   have hap : qI φ (ρ.narrow d X) (({ st with rows := put d { r with hole := some (i + 1, wT) } st.rows } : St).kill (CV.nested d)) w X :=
    ⟨g4.row, fun b x hx => by obtain ⟨y, hy, _⟩ := qK hx; exact g4.box b y hy, g4.here⟩
   rw [wQ hi', show r.m - 1 = M by omega] at hmk ⊢
   obtain ⟨ρ', p1, p2, p3, p4⟩ := qAE (by omega) (j := base) hk hap (qM8 g2)
   obtain ⟨ti, hti, hlen, hx⟩ := qHm hC hmk p4
   have hgr : ∀ w1, jO w w1 -> qV w1 b (i * r.t.sz) vs := fun w1 g => (g.agree (fun _ => True)).cellsAt trivial g1
   have e2' : u = .pointer (some ⟨b, i * r.t.sz, none⟩) := by simpa using e2
   rcases hx with ⟨hagg, hs⟩ | ⟨hagg, x, rfl, hs⟩
   ·have run : ∀ w1, qV w1 b (i * r.t.sz) vs -> (Instr.loadAt t u).run P w1 = .ok (.agg vs.toArray) w1 := fun w1 hc1 => by
     rw [e2']
     simp only [Instr.loadAt, Instr.sureAddr, Sem.run_bind, Sem.run_pure, Result.andThen_ok]
     exact zX hC hti hc1 hlen (.inl ⟨hagg, rfl⟩)
    exact ⟨Ans.pure p1 (run w g1) hs, _, fun w1 g => run w1 (hgr w1 g)⟩
   ·have run : ∀ w1, qV w1 b (i * r.t.sz) [x] -> (Instr.loadAt t u).run P w1 = .ok x w1 := fun w1 hc1 => by
     rw [e2']
     simp only [Instr.loadAt, Instr.sureAddr, Sem.run_bind, Sem.run_pure, Result.andThen_ok]
     exact zX hC hti hc1 hlen (.inr ⟨hagg, rfl⟩)
    exact ⟨Ans.pure p1 (run w g1) hs, _, fun w1 g => run w1 (hgr w1 g)⟩
  ·cases hv
 ·cases hv
theorem qBK (hC : jK P C) {t tx ty e : TypeId} {ei : TI} {U : Ty} (ht : qH9 C t = some (e, ei, U)) (hsz : ei.size = U.sz) {v : Value} {b : List U.T} {m : Nat} (htail : qPN P φ ρ a w U m st1 tx v b)
  {d1 : Nat} {r : Row} (hd1 : qL d1 st1.rows = some r) (hh0 : r.hole = none) (hm : r.m ≠ 0) (he : r.e = e) {l : List U.T} (hrt : ∃ h : r.t = U, l = xG (t := .sl e r.t) (u := .sl e U) (by rw [h]) r.l) {k : Nat} (hk : k <= l.length) (hlim : k + b.length <= qIl ei)
  {u : Value} (hu : ∀ A c, ρ.val d1 = .slice A l.length c -> ∃ A', u = .slice A' k c /\ (0 < c -> A' = A)) {d : Nat} :
  Ans P φ (Builtin.append_ #[t, tx] ty #[u, v]) a w ((st1.dropRow d1).addRow d { e := e, t := U, l := l.take k ++ b, m := Nat.min r.m (m + 1) }) (.c (.own d)) := by
 obtain ⟨hT, hl⟩ := hrt
 subst hT
 subst he
 obtain rfl : l = r.l := hl
 obtain ⟨ρ1, K, news, Bs, r1, s1, p1, src, hBs, fam⟩ := htail
 obtain ⟨M, hM⟩ : ∃ M, Nat.min r.m (m + 1) = M + 1 := ⟨Nat.min r.m (m + 1) - 1, by have : 0 < Nat.min r.m (m + 1) := Nat.lt_min.2 ⟨by omega, by omega⟩; omega⟩
 have hMm : M <= m := by have : Nat.min r.m (m + 1) <= m + 1 := Nat.min_le_right _ _; omega
 obtain ⟨ρ2, l2, f2, n2, c2, _, r2⟩ := r1.lowRow hd1 hh0 (k := Nat.min r.m (m + 1)) (Nat.min_le_left _ _)
 have p2 := p1.low (r' := { r with m := Nat.min r.m (m + 1) }) hd1 f2 l2.blk n2
 obtain ⟨Bs', hBs', fam'⟩ := (fam.step l2.F (qC.refl _ w) (fun _ _ => qC.refl _ w)).less hMm
 have r3 := r2.addF (p2.sub (B' := fun y => ∃ i, i < b.length /\ Bs i y /\ ¬ Bs' i y) fun y ⟨i, hi, hy, _⟩ => hBs i y hi hy)
 have p3 := (p2.sub (B' := fun y => ∃ i, i < b.length /\ Bs' i y) fun y ⟨i, hi, hy⟩ => hBs i y hi (hBs' i y hy)).addF (G := fun y => ∃ i, i < b.length /\ Bs i y /\ ¬ Bs' i y) fun y ⟨i, hi, hy⟩ ⟨j, hj, h1, h2⟩ => by
  have := fam.2.1 i j y hi hj (hBs' i y hy) h1
  subst this; exact h2 hy
 generalize hρ3 : ρ2.addF (fun y => ∃ i, i < b.length /\ Bs i y /\ ¬ Bs' i y) = ρ3 at r3 p3
 have hval : ρ3.val = ρ.val := by rw [<- hρ3]; exact l2.val.trans s1.val
 have hF3 : ∀ y, ρ2.F y \/ (∃ i, i < b.length /\ Bs i y /\ ¬ Bs' i y) -> ρ3.F y := fun y hy => by rw [<- hρ3]; exact hy
 have look3 : qL d1 (put d1 { r with m := Nat.min r.m (m + 1) } st1.rows) = some { r with m := Nat.min r.m (m + 1) } := by rw [qP, if_pos rfl]
 have r4 := r3.dropRow d1
 have k1 := r3.take look3
 have p4 := p3.dropRow d1
 have est : ({ st1 with rows := put d1 { r with m := Nat.min r.m (m + 1) } st1.rows } : St).dropRow d1 = st1.dropRow d1 := by
  simp only [St.dropRow, St.kill, qGw]
 rw [est] at r4 k1 p4
 have hrow := zJ.whole (r := { r with m := Nat.min r.m (m + 1) }) hh0 (r3.rows d1 _ look3).2.2.1
 simp only [hM] at hrow
 obtain ⟨A, c, e1, hh⟩ := qJb hrow
 rw [hval] at e1
 obtain ⟨A', rfl, hA⟩ := hu A c e1
 have hkl : (r.l.take k).length = k := by simp; omega
 have hcore := qC9 (ty := ty) hC r4 ht hsz (v := v) (al := r.l.take k) (b := b) (K := fun y => ∃ i, i < b.length /\ Bs' i y) (K1 := ρ3.ft d1) (news := news) (Bs := Bs') (M := M) p4 src (fun i x hi hx => ⟨i, hi, hx⟩)
  (fam'.step hF3 (qC.refl _ w) fun _ _ => qC.refl _ w) (A := A') (sCap := c) (by rw [hkl]; exact hlim) (by
   rcases hh with ⟨h1, h2⟩ | ⟨b0, arr, fr, vs, Cs, q1, q2, q3, q4, q5, q6, q7, q8, q9⟩
   ·left; exact ⟨by rw [h1]; simp, h2⟩
   ·rcases Nat.eq_zero_or_pos c with h0 | h0
    ·left
     refine ⟨?_, h0⟩
     apply List.eq_nil_of_length_eq_zero
     rw [hkl]; omega
    ·right
     refine ⟨b0, arr, fr, vs.take (k * r.t.sz), Cs, by rw [hA h0]; exact q1, q2, q3, q4, by rw [hkl]; omega, q6, fun j hj => ?_, fun i x hi hx => q8 i x (by rw [hkl] at hi; omega) hx, q9.take k hk⟩
     rw [List.getElem_take]
     exact q7 j (by simp only [List.length_take] at hj; omega)) k1 (fun y hy ⟨i, hi, hx⟩ => p3.row d1 _ look3 y hy ⟨i, hi, hx⟩) (d := d)
 rw [hkl] at hcore
 simpa [hM] using hcore
theorem qIB (hC : jK P C) (h : Rep φ ρ st a w) {t tx ty : TypeId} {x y : CV} {u v : Value} {d : Nat} {o : R1} (hx : CVR ρ w x u) (hy : CVR ρ w y v) (htx : (match y with | .str _ => qHC C tx .str | _ => (qJ3 C tx).isSome) = true)
  (hv : qGJ C st d t x y = some o) (hg : o.g = true) : Ans P φ (Builtin.append_ #[t, tx] ty #[u, v]) a w o.st o.v := by
 unfold qGJ at hv
 cases ht : qH9 C t with
 | none => simp [ht] at hv
 | some q =>
  obtain ⟨e, ei, U⟩ := q
  simp only [ht] at hv
  by_cases hsz : ei.size = U.sz
  ·rw [if_neg (by simpa using hsz)] at hv
   cases htl : kK st U y with
   | none => simp [htl] at hv
   | some q2 =>
    obtain ⟨new, m, st1⟩ := q2
    simp only [htl] at hv
    have tail : ∀ b : List U.T, qG1 U e new = some b -> qPN P φ ρ a w U m st1 tx v b := by
     intro b hb
     cases new with
     | none =>
      simp only [qG1, Option.some.injEq] at hb
      subst hb
      cases y with
      | emp e' t' =>
       simp only [kK, Option.some.injEq, Prod.mk.injEq, true_and] at htl
       obtain ⟨rfl, rfl⟩ := htl
       obtain ⟨A, rfl⟩ := (hy : zQ ρ w (.emp e' t') v)
       obtain ⟨n, hn⟩ := Option.isSome_iff_exists.1 htx
       obtain ⟨e2, j2, hk, _⟩ := qAH hC hn
       exact ⟨ρ, fun _ => False, [], fun _ _ => False, h, Env.Sim.refl ρ, qI.none _ _ _ _, qCx hk A 0, fun _ _ h => by simp at h, Fam.nil⟩
      | _ =>
       simp only [kK] at htl
       (repeat' split at htl) <;> simp at htl
     | some q3 =>
      obtain ⟨t', l⟩ := q3
      simp only [qG1] at hb
      split at hb
      ·rename_i hT
       subst hT
       simp only [Option.some.injEq] at hb
       obtain rfl : l = b := hb
       have hty : qKp P tx v := by
        cases y with
        | str s => exact .inr ⟨qBb hC htx, _, hy⟩
        | emp e' t' => simp [kK] at htl
        | _ =>
         left
         obtain ⟨n, hn⟩ := Option.isSome_iff_exists.1 htx
         obtain ⟨e2, j2, hk, _⟩ := qAH hC hn
         refine ⟨e2, hk, ?_⟩
         first
          | (simp [kK] at htl; done)
          | (obtain ⟨A, c, e3, _⟩ := (hy : qDd ρ.F w _ _ v); exact ⟨A, _, c, e3⟩)
          | (
            simp only [kK] at htl
            split at htl
            ·rename_i r hr
             first
              | (obtain ⟨A, c, e3, _⟩ := h.rowVal (qM hr) (qCf hr); exact ⟨A, _, c, hy.1.trans e3⟩)
              | (obtain ⟨_, _, _, A, _, _, _, _, e3, _⟩ := (hy : zQ ρ w (.vw _ _ _) v); exact ⟨A, _, _, e3⟩)
              | (obtain ⟨A, c, e3, _⟩ := wW h hr hy; exact ⟨A, _, c, e3⟩)
            ·cases htl)
       exact qIT h hy hty rfl htl
      ·cases hb
    split at hv
    ·cases hv
    ·rename_i b hb
     have T := tail b hb
     cases x with
     | emp e' t' =>
      simp only [Option.some.injEq] at hv
      subst hv
      simp only [decide_eq_true_eq] at hg
      obtain ⟨A, rfl⟩ := (hx : zQ ρ w (.emp e' t') u)
      obtain ⟨ρ1, K, news, Bs, r1, s1, p1, src, hBs, fam⟩ := T
      obtain ⟨M, hM⟩ : ∃ M, Nat.min 99 (m + 1) = M + 1 := ⟨Nat.min 99 (m + 1) - 1, by have : 0 < Nat.min 99 (m + 1) := Nat.lt_min.2 ⟨by omega, by omega⟩; omega⟩
      have hMm : M <= m := by have : Nat.min 99 (m + 1) <= m + 1 := Nat.min_le_right _ _; omega
      obtain ⟨Bs', hBs', fam'⟩ := fam.less hMm
      have r3 := r1.addF (p1.sub (B' := fun y => ∃ i, i < b.length /\ Bs i y /\ ¬ Bs' i y) fun y ⟨i, hi, hy, _⟩ => hBs i y hi hy)
      have p3 := (p1.sub (B' := fun y => ∃ i, i < b.length /\ Bs' i y) fun y ⟨i, hi, hy⟩ => hBs i y hi (hBs' i y hy)).addF (G := fun y => ∃ i, i < b.length /\ Bs i y /\ ¬ Bs' i y) fun y ⟨i, hi, hy⟩ ⟨j, hj, h1, h2⟩ => by
       have := fam.2.1 i j y hi hj (hBs' i y hy) h1
       subst this; exact h2 hy
      have := qC9 (ty := ty) hC r3 ht hsz (v := v) (al := []) (b := b) (K1 := fun _ => False) p3 src (fun i x hi hx => ⟨i, hi, hx⟩) fam' (A := A) (sCap := 0) hg (.inl ⟨rfl, rfl⟩) (qI.none _ _ _ _) (fun _ h => h.elim) (d := d)
      simpa [hM] using this
     | own d1 =>
      simp only at hv
      split at hv
      ·rename_i r hr
       split at hv
       ·cases hv
       ·rename_i hme
        split at hv
        ·rename_i hT
         simp only [Option.some.injEq] at hv
         subst hv
         simp only [decide_eq_true_eq] at hg
         have he : r.e = e := Classical.byContradiction fun hh => hme (.inr hh)
         have := qBK (ty := ty) hC ht hsz T (qM hr) (qN hr) (fun hh => hme (.inl hh)) he ⟨hT, rfl⟩ (Nat.le_refl _) hg (u := u) (fun A c e1 => ⟨A, hx.1.trans e1, fun _ => rfl⟩) (d := d)
         simpa using this
        ·cases hv
      ·cases hv
     | vw d1 lo hi =>
      simp only at hv
      split at hv
      ·rename_i r hr
       split at hv
       ·cases hv
       ·rename_i hme
        split at hv
        ·rename_i hT
         simp only [Option.some.injEq] at hv
         subst hv
         simp only [Bool.and_eq_true, decide_eq_true_eq] at hg
         obtain ⟨⟨hg, g1⟩, rfl⟩ := hg
         have he : r.e = e := Classical.byContradiction fun hh => hme (.inr hh)
         have hll : (xG (t := .sl e r.t) (u := .sl e U) (by rw [hT]) r.l).length = r.l.length := by subst hT; rfl
         have := qBK (ty := ty) (k := hi) hC ht hsz T (qM hr) (qN hr) (fun hh => hme (.inl hh)) he ⟨hT, rfl⟩ (by rw [hll]; exact g1) (by
          rw [List.length_take, hll, Nat.min_eq_left g1] at hg; exact hg) (u := u) (fun A c e1 => by
           obtain ⟨A0, n0, c0, A', e2, _, _, _, e3, e4⟩ := (hx : zQ ρ w (.vw d1 0 hi) u)
           rw [e1] at e2
           simp only [Value.slice.injEq] at e2
           obtain ⟨rfl, _, rfl⟩ := e2
           refine ⟨A', by simpa using e3, fun hc => ?_⟩
           rw [e4 hc]
           cases A with
           | none => rfl
           | some A => simp [Addr.add]) (d := d)
         simpa using this
        ·cases hv
      ·cases hv
     | nref d1 i off =>
      simp only at hv
      split at hv
      ·rename_i r hr
       split at hv
       ·cases hv
       ·rename_i hmd
        split at hv
        ·rename_i e' u' q hat
         split at hv
         ·cases hv
         ·rename_i hee
          split at hv
          ·rename_i hT
           subst hT
           simp only [Option.some.injEq] at hv
           subst hv
           simp only [decide_eq_true_eq] at hg
           obtain rfl : e' = e := Classical.byContradiction hee
           obtain ⟨ρ1, K, news, Bs, r1, s1, p1, src, hBs, fam⟩ := T
           obtain ⟨k, hk⟩ : ∃ k, Nat.min (r.m - 1) (m + 1) = k + 1 := ⟨Nat.min (r.m - 1) (m + 1) - 1, by have : 0 < Nat.min (r.m - 1) (m + 1) := Nat.lt_min.2 ⟨by omega, by omega⟩; omega⟩
           have hkm : k + 1 <= r.m - 1 := hk ▸ Nat.min_le_left _ _
           rw [hk]
           obtain ⟨ρ2, l2, f2, n2, c2, _, r2⟩ := r1.lowRow (qM hr) (qN hr) (k := k + 1 + 1) (by omega)
           have p2 := p1.low (r' := { r with m := k + 1 + 1 }) (qM hr) f2 l2.blk n2
           have look2 : qL d1 (put d1 { r with m := k + 1 + 1 } st1.rows) = some { r with m := k + 1 + 1 } := by rw [qP, if_pos rfl]
           obtain ⟨⟨_, b0, n0, c0, hL, hi, hcell⟩, _, _⟩ := (hx : zQ ρ w (.nref d1 i off) u)
           have hval : ρ2.val = ρ.val := l2.val.trans s1.val
           obtain ⟨X, v', hX, hcell', hown, r3⟩ := r2.hole look2 (show r.hole = none from qN hr) (M := k + 1) rfl (by rw [hval]; exact hL) hi hat (by omega)
           simp only [qGe] at r3
           have hty : ρ.ty d1 = r.t := by
            have := (r1.rows d1 r (qM hr)).2.1
            rw [s1.ty] at this; exact this
           rw [hty] at hcell
           obtain rfl : v' = u := by
            have : some v' = some u := hcell'.symm.trans hcell
            simpa using this
           have hlk : ∀ {e2 re}, qL e2 (put d1 { r with m := k + 1 + 1, hole := some (i, off) } st1.rows) = some re -> ∃ re', qL e2 (put d1 { r with m := k + 1 + 1 } st1.rows) = some re' := fun {e2 re} he => by
            rw [qP] at he ⊢
            split at he
            ·exact ⟨_, by rename_i hh; rw [if_pos hh]⟩
            ·rename_i hh; exact ⟨re, by rw [if_neg hh]; exact he⟩
           have r4 := r3.addRow (jO.refl w) (d := d) (r := { e := e', t := u', l := q, m := k + 1 }) (v := v') (B := X) rfl hown (vD hown (by omega))
            (fun y hy => r2.rF d1 _ look2 y (hX y hy))
            (fun e2 re _ he y hy hx' => by
             obtain ⟨re', he'⟩ := hlk he
             by_cases h1 : e2 = d1
             ·subst h1; simp [Env.narrow] at hy; exact hy.2 hx'
             ·exact r2.rsep e2 d1 re' _ he' look2 h1 y (kI hy) (hX y hx'))
            (fun b' x' hb' hx' => r2.rb d1 _ b' x' look2 hb' (hX _ hx'))
           have p4 : qI φ ((ρ2.narrow d1 X).setRow d v' u' X) (St.addRow { st1 with rows := put d1 { r with m := k + 1 + 1, hole := some (i, off) } st1.rows } d { e := e', t := u', l := q, m := k + 1 }) w K :=
            ⟨fun e2 re he y hy hK => by
             simp only [St.addRow, qP] at he
             simp only [Env.setRow] at hy
             by_cases h1 : e2 = d
             ·rw [if_pos h1] at hy; exact p2.row d1 _ look2 y (hX y hy) hK
             ·rw [if_neg h1] at hy he
              obtain ⟨re', he'⟩ := hlk (by rw [qP]; exact he)
              exact p2.row e2 re' he' y (kI hy) hK,
             fun b' x' hb' => by
             obtain ⟨y', hy', _⟩ := qK (st := { st1 with rows := put d1 { r with m := k + 1 + 1, hole := some (i, off) } st1.rows }) hb'
             exact p2.box b' y' hy',
             p2.here⟩
           have := qBK (ty := ty) hC ht hsz (st1 := St.addRow { st1 with rows := put d1 { r with m := k + 1 + 1, hole := some (i, off) } st1.rows } d { e := e', t := u', l := q, m := k + 1 })
            (ρ := (ρ2.narrow d1 X).setRow d v' u' X) (b := b) (m := m) ⟨_, K, news, Bs, r4, Env.Sim.refl _, p4, src, hBs, fam.step l2.F (qC.refl _ w) (fun _ _ => qC.refl _ w)⟩ (d1 := d) (r := { e := e', t := u', l := q, m := k + 1 })
            (by simp only [St.addRow, qP, if_pos]) rfl (by simp) rfl ⟨rfl, rfl⟩ (Nat.le_refl _) hg (u := v') (fun A c e1 => ⟨A, by simpa [Env.setRow] using e1, fun _ => rfl⟩) (d := d)
           rw [List.take_length] at this
           exact this
          ·cases hv
        ·cases hv
      ·cases hv
     | _ => simp at hv
  ·rw [if_pos hsz] at hv
   cases hv
theorem qEZ (hC : jK P C) (h : Rep φ ρ st a w) {t : TypeId} {g : Bool} {n : Nat} (hs : qCv C t = some (g, n)) {d i off d2 : Nat} {p v : Value} {r r2 : Row} {x : r.t.T}
  (hp : zQ ρ w (.pelt d i off) p) (hv : jC (CVR ρ w) [.own d2] v.cells.toList) (hn : 1 = n) (hd : qL d st.rows = some r) (hh : r.hole = some (i, off)) (hd2 : st.row? d2 = some r2) (hm : ¬ r2.m + 1 < r.m)
  (hset : r.t.slSet (nth r.t r.l i) off r2.e r2.t r2.l = some x) (hmk : off < zF) :
  qDa P φ (Instr.storeAt t p v) a w { (st.dropRow d2).kill (CV.nested d) with rows := put d { e := r.e, t := r.t, l := r.l.set i x, m := r.m } ((st.dropRow d2).kill (CV.nested d)).rows } := by
 have hne : d ≠ d2 := by rintro rfl; rw [qM hd2] at hd; simp only [Option.some.injEq] at hd; subst hd; rw [qN hd2] at hh; cases hh
 have hrow0 := h.rows d r hd
 obtain ⟨M, hM⟩ : ∃ M, r.m = M + 1 := by
  have := hrow0.2.2.1
  unfold zJ at this
  rw [hh] at this
  obtain ⟨hq, _⟩ | ⟨_, M, hM, _⟩ | ⟨_, M, hM, _⟩ := this
  ·omega
  ·exact ⟨M, hM⟩
  ·exact ⟨M, hM⟩
 obtain ⟨ρ1, l1, f1, n1, c1, _, r1⟩ := h.lowRow (qM hd2) (qN hd2) (k := M) (by omega)
 have look1 : qL d (put d2 { r2 with m := M } st.rows) = some r := by rw [qP, if_neg hne]; exact hd
 have look2 : qL d2 (put d2 { r2 with m := M } st.rows) = some { r2 with m := M } := by rw [qP, if_pos rfl]
 have est : ({ st with rows := put d2 { r2 with m := M } st.rows } : St).dropRow d2 = st.dropRow d2 := by
  simp only [St.dropRow, St.kill, qGw]
 have r3 := r1.dropRow d2
 have pK := r1.take look2
 rw [est] at r3 pK
 have look3 : qL d (st.dropRow d2).rows = some r := by simp only [St.dropRow, wL, if_neg hne]; exact hd
 have r4 := r3.widen look3 pK
 have hrow := (r1.rows d r look1).2.2.1
 unfold zJ at hrow
 rw [hh] at hrow
 replace hrow := (hrow.resolve_left fun hq => by have := hq.1; omega).resolve_right fun hq => by have h1 := hq.1; rw [h1] at hmk; exact absurd hmk (by decide)
 obtain ⟨_, M', hM', b, c, arr, fr, e1, hb, hfr, hcap, hlen, hbB, Bs, h7, h8, h9, hi, vs, g1, g2⟩ := hrow
 obtain rfl : M' = M := by omega
 obtain ⟨e2, e3⟩ := qH0 g2
 have hown := zJ.whole (r := { r2 with m := M' }) (show r2.hole = none from qN hd2) (r1.rows d2 _ look2).2.2.1
 simp only at hown
 obtain ⟨v2, hv2, hvv⟩ : ∃ v2, v.cells.toList = [v2] /\ v2 = ρ.val d2 := by
  cases hc : v.cells.toList with
  | nil => rw [hc] at hv; exact hv.elim
  | cons y ys =>
   rw [hc] at hv
   cases ys with
   | cons _ _ => exact hv.2.elim
   | nil => exact ⟨y, rfl, hv.1.1⟩
 have hv2' : ρ1.val d2 = v2 := by rw [l1.val]; exact hvv.symm
 rw [hv2'] at hown
 have hsz : v.cells.size = n := by rw [<- Array.length_toList, hv2]; exact hn
 obtain ⟨b', n', c', q1, q2, rfl⟩ := hp
 have hval : ρ1.val = ρ.val := l1.val
 rw [hval, q1] at e1
 simp only [Value.slice.injEq, Option.some.injEq, Addr.mk.injEq] at e1
 obtain ⟨⟨rfl, _⟩, rfl, rfl⟩ := e1
 rw [hrow0.2.1]
 have hle1 : (i + 1) * r.t.sz <= arr.size := Nat.le_trans (Nat.mul_le_mul_right _ (by omega)) hcap
 have hle : (i * r.t.sz + off) + n <= arr.size := by rw [Nat.add_mul] at hle1; omega
 obtain ⟨w', s1, s2, s3, s4, s5⟩ := wI (P := P) hC hs (off := i * r.t.sz + off) hb hfr hsz hle (qBp hv)
 have hcells : v.cells.toList.length = n := by rw [hv2]; exact hn
 obtain ⟨pa, pc⟩ := qHf hb s5 hcells (by omega) hle1
 have hFb : ¬ ρ1.F b' := (r1.rF d r look1 b' hbB).1
 have aF : qC ρ1.F w w' := fun z o hz ho => by rw [s4 z (by rintro rfl; exact hFb hz)]; exact ho
 have hKb : ¬ ρ1.ft d2 b' := fun hk => r1.rsep d d2 _ _ look1 look2 hne b' hbB hk
 have agree : ∀ S : Nat -> Prop, ¬ S b' -> qC S w w' := fun S hS z o hz ho => by rw [s4 z (by rintro rfl; exact hS hz)]; exact ho
 have hown' := jA (fun _ h => h) aF (agree _ hKb) hown
 have g2' := qFZ (fun _ h => h) aF (agree _ fun hx => (h7 i b' hi hx).2 rfl) g2
 obtain ⟨arr', p1, p2, p3⟩ := pa arr fr hb
 have hdis : ∀ y, ρ1.ft d2 y -> ¬ ρ1.ft d y := fun y hy hy' => r1.rsep d d2 _ _ look1 look2 hne y hy' hy
 have hfill := qKz g2' (by rw [wQ hi] at hset; exact hset) hown' (fun y hy hy' => hdis y hy (h7 i y hi hy').1)
 have hnew : qJ ρ1.F w' (.sl r.e r.t) (M' + 1) (r.l.set i x) (fun y => ρ1.ft d y \/ ρ1.ft d2 y) [ρ1.val d] := by
  rw [qJ]
  refine ⟨_, rfl, _, c', by rw [hval, q1]; simp, .inr ⟨b', arr', fr, rfl, p1, by rw [p2]; exact hfr, by rw [p2]; exact hcap, by simpa using hlen, .inl hbB, fun j y => Bs j y \/ (j = i /\ ρ1.ft d2 y), ?_, ?_, ?_⟩⟩
  ·intro j y hj hy
   rw [List.length_set] at hj
   rcases hy with hy | ⟨_, hy⟩
   ·exact ⟨.inl (h7 j y hj hy).1, (h7 j y hj hy).2⟩
   ·exact ⟨.inr hy, by rintro rfl; exact hKb hy⟩
  ·intro j k y hj hk hy hy'
   rw [List.length_set] at hj hk
   rcases hy with hy | ⟨rfl, hy⟩ <;> rcases hy' with hy' | ⟨rfl, hy'⟩
   ·exact h8 j k y hj hk hy hy'
   ·exact absurd (h7 j y hj hy).1 (hdis y hy')
   ·exact absurd (h7 k y hk hy').1 (hdis y hy)
   ·rfl
  ·intro j hj
   rw [List.length_set] at hj
   by_cases hji : j = i
   ·subst hji
    refine ⟨vs.set off v2, ?_, ?_⟩
    ·have := pc vs g1 e2
     rw [hv2, <- hn] at this
     have es : vs.set off v2 = vs.take off ++ [v2] ++ vs.drop (off + 1) := by
      rw [List.set_eq_take_append_cons_drop, if_pos (by omega), List.append_assoc]; rfl
     rw [es]; exact this
    ·rw [List.getElem_set_self]
     exact zP (fun y hy => hy.imp id fun hy => ⟨rfl, hy⟩) hfill
   ·obtain ⟨us, k1, k2⟩ := h9 j hj hji
    refine ⟨us, fun m hm => ?_, ?_⟩
    ·have hl := jB k2
     have hpm := k1 m hm
     rw [jV] at hpm ⊢
     obtain ⟨cs, e', fr', z1, z2⟩ := hpm
     rw [hb] at z1
     simp only [Option.some.injEq, Obj.cells.injEq] at z1
     obtain ⟨rfl, rfl, rfl⟩ := z1
     refine ⟨arr', r.e, fr, p1, ?_⟩
     rw [p3]
     ·exact z2
     ·rcases Nat.lt_or_gt_of_ne hji with hlt | hlt
      ·left
       have : (j + 1) * r.t.sz <= i * r.t.sz := Nat.mul_le_mul_right _ hlt
       rw [Nat.add_mul] at this
       omega
      ·right
       have : (i + 1) * r.t.sz <= j * r.t.sz := Nat.mul_le_mul_right _ hlt
       omega
    ·rw [List.getElem_set_ne (Ne.symm hji)]
     exact zP (fun y hy => .inl hy) (jA (fun _ h => h) aF (agree _ fun hx => (h7 j b' hj hx).2 rfl) k2)
 have hput := r4.putRow look3 (w' := w') (r' := { e := r.e, t := r.t, l := r.l.set i x, m := r.m }) (B := fun y => ρ1.ft d y \/ ρ1.ft d2 y) (by rw [s2]; exact Nat.le_refl _) s3
  (fun y _ hy => s4 y (by rintro rfl; exact hy (by simp [Env.widen]; exact .inl hbB))) rfl rfl (by simp only [hM]; exact hnew) (vD (n := M' + 1) hnew (by omega)) (fun y hy => .inl (by simp only [Env.widen, if_true]; exact hy))
 exact ⟨_, w', s1, hput⟩
end
section
variable {φ : Fix} {ρ : Env} {st : St} {a : Act} {w : World} {P : Program} {C : Ctx}
theorem qCZ (h : Rep φ ρ st a w) {d : Nat} {e : TypeId} {t : Ty} {A : Option Addr} : ∃ ρ', Rep φ ρ' (st.addRow d { e := e, t := t, l := [], m := 99 }) a w /\ SVR ρ' w (.c (.own d)) (.slice A 0 0) /\ ∀ c : CV, c.says (CV.speaks d) = false -> jM ρ ρ' w w c := by
 refine ⟨ρ.setRow d (.slice A 0 0) t (fun _ => False), h.addRow (jO.refl w) (r := { e := e, t := t, l := [], m := 99 }) rfl (by show qJ _ _ _ (98 + 1) _ _ _; rw [qJ]; exact ⟨_, rfl, A, 0, rfl, .inl ⟨rfl, rfl⟩⟩) (fun hh => absurd rfl hh) (fun _ h => h.elim) (fun _ _ _ _ _ _ h => h) (fun _ _ _ h => h), ?_, fun c hc => jM.setRow (fun S => qC.refl S w) hc⟩
 simp [SVR, qEH, CVR, zQ, Env.setRow, Value.oneCell']
theorem Did.val {o : Oper} {v : SV} {x : Value} (h : Rep φ ρ st a w) (he : execOp a.eval o = pure (.value x)) (hv : SVR ρ w v x) : Did P φ o a w st v :=
 ⟨ρ, w, h, .inl ⟨x, by rw [he]; rfl, hv⟩⟩
theorem qJs (h : Rep φ ρ st a w) {o : Oper} {x : Operand} (he : execOp a.eval o = pure (.value (a.eval x))) {d : Nat} {r : R1}
  (hs : (match qLF C st o.type x with
  | some (.c (.emp e t)) => ok1 (st.addRow d { e := e, t := t, l := [], m := 99 }) (.c (.own d))
  | some v => ok1 st v
  | none => none) = some r) : Did P φ o a w r.st r.v := by
 split at hs
 ·rename_i e t hv
  simp only [ok1, Option.some.injEq] at hs
  subst hs
  obtain ⟨A, hA⟩ := (qAD h hv : zQ ρ w (.emp e t) _)
  obtain ⟨ρ', h1, h2, _⟩ := qCZ h (d := d) (e := e) (t := t) (A := A)
  exact Did.val h1 he (by rw [hA]; exact h2)
 ·rename_i v hv
  simp only [ok1, Option.some.injEq] at hs
  subst hs
  exact Did.val h he (qAD h hv)
 ·cases hs
theorem qMB (h : Rep φ ρ st a w) {dst : Option Tmp} {c x y : Operand} {ty : TypeId} {pos : String} {af : Array Edge} {gd : Option (Nat × Bool)} {r : R1}
  (hs : jY C st { dst := dst, op := .pick c x y, type := ty, pos := pos, after := af, guard := gd } = some r) (hg : r.g = true) : Did P φ { dst := dst, op := .pick c x y, type := ty, pos := pos, after := af, guard := gd } a w r.st r.v := by
 simp only [jY] at hs
 split at hs
 ·rename_i t hc
  have ec : a.eval c = .bool t := qW h hc
  have he : ∀ z, (if t = true then a.eval x else a.eval y) = z -> (execOp a.eval { dst := dst, op := .pick c x y, type := ty, pos := pos, after := af, guard := gd }).run P w = .ok (.value z) w := by
   rintro z rfl
   simp [execOp, ec, asBool]
  have fin : ∀ {v : SV} {z : Value}, (if t = true then a.eval x else a.eval y) = z -> SVR ρ w v z -> r = ⟨true, v, st⟩ -> Did P φ { dst := dst, op := .pick c x y, type := ty, pos := pos, after := af, guard := gd } a w r.st r.v := by
   rintro v z hz hv rfl
   exact ⟨ρ, w, h, .inl ⟨z, he z hz, hv⟩⟩
  split at hs
  ·rename_i p q h1 h2
   simp only [ok1, Option.some.injEq] at hs
   have e1 : a.eval x = .bool p := qW h h1
   have e2 : a.eval y = .bool q := qW h h2
   refine fin rfl ?_ hs.symm
   rw [e1, e2]; cases t <;> rfl
  ·rename_i k p k' q h1 h2
   split at hs
   ·rename_i hk
    subst hk
    simp only [ok1, Option.some.injEq] at hs
    have e1 : a.eval x = .int k p := qW h h1
    have e2 : a.eval y = .int k q := qW h h2
    refine fin rfl ?_ hs.symm
    rw [e1, e2]; cases t <;> rfl
   ·cases hs
  ·rename_i p q h1 h2
   simp only [ok1, Option.some.injEq] at hs
   have e1 : a.eval x = .string ⟨⟨p⟩⟩ := qW h h1
   have e2 : a.eval y = .string ⟨⟨q⟩⟩ := qW h h2
   refine fin rfl ?_ hs.symm
   rw [e1, e2]; cases t <;> rfl
  ·rename_i v h1 h2
   simp only [Option.some.injEq] at hs
   have ht : t = true := by rw [<- hs] at hg; exact hg
   subst ht
   exact fin (by simp) (qW h h1) hs.symm
  ·rename_i v h1 h2
   simp only [Option.some.injEq] at hs
   have ht : t = false := by rw [<- hs] at hg; simpa using hg
   subst ht
   exact fin (by simp) (qW h h2) (by rw [<- hs]; rfl)
  ·cases hs
 ·cases hs
theorem qMv {α : Type} {arr : List α} {zs : List α} {A i z : Nat} (hA : A + zs.length <= arr.length) (hi : (i + 1) * z <= A \/ A + zs.length <= i * z) :
  ((arr.take A ++ zs ++ arr.drop (A + zs.length)).drop (i * z)).take z = (arr.drop (i * z)).take z := by
 apply List.ext_getElem?
 intro j
 by_cases hj : j < z
 ·rw [List.getElem?_take_of_lt hj, List.getElem?_take_of_lt hj, List.getElem?_drop, List.getElem?_drop, yG]
  have e1 : (i + 1) * z = i * z + z := by rw [Nat.add_mul]; omega
  have m1 : min A arr.length = A := by omega
  simp only [List.length_take, m1]
  rcases hi with hi | hi
  ·rw [if_pos (by omega), List.getElem?_take_of_lt (by omega)]
  ·rw [if_neg (by omega), if_neg (by omega), List.getElem?_drop]
   congr 1; omega
 ·rw [List.getElem?_eq_none (by simp; omega), List.getElem?_eq_none (by simp; omega)]
theorem qMw {α : Type} {arr zs q : List α} {A k z : Nat} (hA : A + zs.length <= arr.length) (hk : (k + 1) * z <= zs.length) (hq : ∀ j, j < z -> zs[k * z + j]? = q[j]?) (hl : q.length = z) :
  ((arr.take A ++ zs ++ arr.drop (A + zs.length)).drop (A + k * z)).take z = q := by
 apply List.ext_getElem?
 intro j
 by_cases hj : j < z
 ·rw [List.getElem?_take_of_lt hj, List.getElem?_drop, yG]
  have e1 : (k + 1) * z = k * z + z := by rw [Nat.add_mul]; omega
  have m1 : min A arr.length = A := by omega
  simp only [List.length_take, m1]
  rw [if_neg (by omega), if_pos (by omega), <- hq j hj]
  congr 1; omega
 ·rw [List.getElem?_eq_none (by simp; omega), List.getElem?_eq_none (by omega)]
theorem qKc {w : World} {b o : Nat} {vs : List Value} {arr : Array Value} {e : TypeId} {fr : Nat × Nat} (hb : w.heap[b]? = some (.cells arr e fr)) (h : qV w b o vs) : (arr.toList.drop o).take vs.length = vs := by
 apply List.ext_getElem?
 intro j
 by_cases hj : j < vs.length
 ·rw [List.getElem?_take_of_lt hj, List.getElem?_drop]
  have := h j hj
  rw [jV] at this
  obtain ⟨arr0, e0, fr0, q1, q2⟩ := this
  rw [hb] at q1
  simp only [Option.some.injEq, Obj.cells.injEq] at q1
  obtain ⟨rfl, _, _⟩ := q1
  rw [List.getElem?_eq_getElem hj, <- q2]; simp
 ·rw [List.getElem?_eq_none (by simp; omega), List.getElem?_eq_none (by omega)]
theorem qLl (hC : jK P C) (h : Rep φ ρ st a w) {t e ty : TypeId} {ei : TI} {d lo hi : Nat} {u : Value} {r : Row} {z : r.t.T} {M : Nat} (hu : CVR ρ w (.vw d lo hi) u) (hd : st.row? d = some r) (ht : qH9 C t = some (e, ei, r.t))
  (hz : r.t.pack1 ei.zero = some z) (hsz : ei.size = r.t.sz) (hM : r.m = M + 1) :
  Ans P φ (Builtin.clear_ #[t] ty #[u]) a w { st.kill (CV.nested d) with rows := put d { r with l := r.l.take lo ++ List.replicate (hi - lo) z ++ r.l.drop hi } st.rows } (.tup []) := by
 obtain ⟨al, n, c, a', q1, q2, q3, q4, rfl, q6⟩ := (hu : zQ ρ w (.vw d lo hi) u)
 have hd' := qM hd
 obtain ⟨hund, hei, hty⟩ := qD4 hC ht
 have T := hC.ti e ei hei
 obtain ⟨inf, i1, i2, i3, zv, i4, i5, i6, _⟩ := T.inf
 obtain ⟨_, g2, g3, g4⟩ := h.rows d r hd'
 have ho := zJ.whole (qN hd) g3
 rw [hM, qJ] at ho
 obtain ⟨v', p1, aa, k, p2, hh⟩ := ho
 simp only [List.cons.injEq, and_true] at p1
 subst p1
 rw [q1] at p2
 simp only [Value.slice.injEq] at p2
 obtain ⟨rfl, rfl, rfl⟩ := p2
 have fin : ∀ (w' : World), (Builtin.clear_ #[t] ty #[.slice a' (hi - lo) (c - lo)]).run P w = .ok (.tuple #[]) w' -> w.heap.size <= w'.heap.size -> zD w w' -> (∀ b, b < w.heap.size -> ¬ ρ.ft d b -> w'.heap[b]? = w.heap[b]?) ->
   qJ ρ.F w' (.sl r.e r.t) (M + 1) (r.l.take lo ++ List.replicate (hi - lo) z ++ r.l.drop hi) (ρ.ft d) [ρ.val d] ->
   Ans P φ (Builtin.clear_ #[t] ty #[.slice a' (hi - lo) (c - lo)]) a w { st.kill (CV.nested d) with rows := put d { r with l := r.l.take lo ++ List.replicate (hi - lo) z ++ r.l.drop hi } st.rows } (.tup []) := by
  intro w' hrun hs hio hk hr
  have hrow := h.putRow (r' := { r with l := r.l.take lo ++ List.replicate (hi - lo) z ++ r.l.drop hi }) (B := ρ.ft d) hd' hs hio hk rfl (show r.hole = none from qN hd) (by simpa only [hM] using hr) (vD hr (by omega)) (fun y hy => .inl hy)
  exact ⟨_, _, _, hrun, hrow, #[], rfl, trivial⟩
 have hlen : (r.l.take lo ++ List.replicate (hi - lo) z ++ r.l.drop hi).length = r.l.length := by simp; omega
 by_cases hlo : lo = hi
 ·subst hlo
  refine fin w ?_ (Nat.le_refl _) (zD.refl w) (fun _ _ _ => rfl) ?_
  ·cases a' <;> simp [Builtin.clear_, run_underlying hund]
  ·rw [Nat.sub_self, List.replicate_zero, List.append_nil, List.take_append_drop, qJ]
   exact ⟨_, rfl, _, _, q1, hh⟩
 ·rcases hh with ⟨h0, _⟩ | ⟨b, arr, fr, h1, h2, h3, h4, h5, h6, Bs, h7, h8, h9⟩
  ·rw [h0] at q3; simp at q3; omega
  ·have ea := q6 (by omega)
   rw [h1] at ea
   simp only [Option.map_some, vA, Nat.zero_add] at ea
   rw [g2] at ea
   subst ea
   have hzs : (Builtin.zeroCells zv.cells (hi - lo)).size = (hi - lo) * r.t.sz := by simp [Builtin.zeroCells, i6, hsz]
   have hzl : (Builtin.zeroCells zv.cells (hi - lo)).toList.length = (hi - lo) * r.t.sz := by simpa using hzs
   have e1 : lo * r.t.sz + (hi - lo) * r.t.sz = hi * r.t.sz := by rw [<- Nat.add_mul]; congr 1; omega
   have e2 : hi * r.t.sz <= c * r.t.sz := Nat.mul_le_mul_right _ (by omega)
   have hone : ∀ v, v ∈ (Builtin.zeroCells zv.cells (hi - lo)).toList -> v.oneCell' = true := by
    intro v hv
    obtain ⟨j, hj, rfl⟩ := List.getElem_of_mem hv
    have hj' : j < (hi - lo) * zv.cells.size := by rw [i6, hsz]; omega
    have := qAf zv.cells (hi - lo) j hj'
    have hp : 0 < zv.cells.size := by
     rcases Nat.eq_zero_or_pos zv.cells.size with h' | h'
     ·rw [h'] at hj'; omega
     ·exact h'
    have hm : j % zv.cells.size < zv.cells.size := Nat.mod_lt _ hp
    have hv2 : (Builtin.zeroCells zv.cells (hi - lo)).toList[j] = zv.cells[j % zv.cells.size] := by
     have hg : (Builtin.zeroCells zv.cells (hi - lo))[j]? = zv.cells[j % zv.cells.size]? := this
     rw [Array.getElem?_eq_getElem (by simpa using hj), Array.getElem?_eq_getElem hm, Option.some.injEq] at hg
     simpa using hg
    rw [hv2]
    exact qBp ((i5 ρ w).imp fun _ _ => zL) _ (by simp)
   obtain ⟨w', k1, k2, k3, k4, k5⟩ := wC (P := P) (w := w) (b := b) (off := lo * r.t.sz) (vs := (Builtin.zeroCells zv.cells (hi - lo)).toList) h2 h3 (by rw [hzl]; omega) hone
   refine fin w' ?_ (by rw [k2]; exact Nat.le_refl _) k3 (fun y hy hn => k4 y fun e => hn (e ▸ h6)) ?_
   ·have hne : hi - lo ≠ 0 := by omega
    obtain ⟨m, hm⟩ : ∃ m, hi - lo = m + 1 := ⟨hi - lo - 1, by omega⟩
    rw [hm] at k1 ⊢
    simp [Builtin.clear_, run_underlying hund, zeroValue, typeInfo, i1, i4, k1]
   ·have aF : qC ρ.F w w' := fun y o hy hb => by
     rw [k4 y fun e => (h.rF d r hd' y (e ▸ h6)).1 hy]; exact hb
    have hasz : (arr.toList.take (lo * r.t.sz) ++ (Builtin.zeroCells zv.cells (hi - lo)).toList ++ arr.toList.drop (lo * r.t.sz + (Builtin.zeroCells zv.cells (hi - lo)).toList.length)).length = arr.size := by
     simp only [List.length_append, List.length_take, List.length_drop, Array.length_toList, hzs]
     omega
    have hnew := qAm (F := ρ.F) (w := w') (e := r.e) (t := r.t) (m := M) (l := r.l.take lo ++ List.replicate (hi - lo) z ++ r.l.drop hi) (c := c) (B := ρ.ft d) (b := b) k5 (by simpa only [List.size_toArray, hasz] using h3) (by simpa only [List.size_toArray, hasz] using h4) (by rw [hlen]; exact h5)
     (vs := (arr.toList.take (lo * r.t.sz) ++ (Builtin.zeroCells zv.cells (hi - lo)).toList ++ arr.toList.drop (lo * r.t.sz + (Builtin.zeroCells zv.cells (hi - lo)).toList.length)).take (r.l.length * r.t.sz))
     (fun j hj => by rw [hlen] at hj; rw [List.getElem?_toArray, List.getElem?_take_of_lt hj]) (by
      have : r.l.length * r.t.sz <= c * r.t.sz := Nat.mul_le_mul_right _ h5
      rw [hlen, List.length_take, hasz]; omega) h6 (fun i y => Bs i y /\ ¬ (lo <= i /\ i < hi)) (fun i y hi' hy => h7 i y (by rw [hlen] at hi'; exact hi') hy.1) (fun i j y hi' hj' hy hy' => h8 i j y (by rw [hlen] at hi'; exact hi') (by rw [hlen] at hj'; exact hj') hy.1 hy'.1) (fun i hi' => by
      have hi2 : i < r.l.length := by rw [hlen] at hi'; exact hi'
      have hle : (i + 1) * r.t.sz <= r.l.length * r.t.sz := Nat.mul_le_mul_right _ hi2
      have e3 : (i + 1) * r.t.sz = i * r.t.sz + r.t.sz := by rw [Nat.add_mul]; omega
      rw [List.drop_take, List.take_take, Nat.min_eq_left (by omega)]
      by_cases hin : lo <= i /\ i < hi
      ·obtain ⟨kk, rfl⟩ : ∃ kk, i = lo + kk := ⟨i - lo, by omega⟩
       have e4 : (lo + kk) * r.t.sz = lo * r.t.sz + kk * r.t.sz := Nat.add_mul _ _ _
       have hkk : (kk + 1) * r.t.sz <= (hi - lo) * r.t.sz := Nat.mul_le_mul_right _ (by omega)
       rw [e4, qMw (q := zv.cells.toList) (by rw [hzl, Array.length_toList]; omega) (by rw [hzl]; exact hkk) (fun j hj => by
        have hg : (Builtin.zeroCells zv.cells (hi - lo))[kk * r.t.sz + j]? = zv.cells[(kk * r.t.sz + j) % zv.cells.size]? := qAf zv.cells (hi - lo) (kk * r.t.sz + j) (by rw [i6, hsz]; rw [Nat.add_mul] at hkk; omega)
        have hmod : (kk * r.t.sz + j) % zv.cells.size = j := by rw [i6, hsz, Nat.mul_comm kk r.t.sz, Nat.mul_add_mod, Nat.mod_eq_of_lt hj]
        rw [hmod] at hg
        rw [Array.getElem?_toList, Array.getElem?_toList]; exact hg) (by simp [i6, hsz])]
       have e5 : (r.l.take lo ++ List.replicate (hi - lo) z ++ r.l.drop hi)[lo + kk] = z := by
        have hx : (r.l.take lo ++ List.replicate (hi - lo) z ++ r.l.drop hi)[lo + kk]? = some z := by
         rw [yG]
         simp only [List.length_take, List.length_replicate]
         rw [if_neg (by omega), if_pos (by omega), List.getElem?_replicate, if_pos (by omega)]
        rw [List.getElem?_eq_getElem hi', Option.some.injEq] at hx; exact hx
       rw [e5]
       exact qBA hz (qAN i5 T.nodat _)
      ·have hout : (i + 1) * r.t.sz <= lo * r.t.sz \/ lo * r.t.sz + (Builtin.zeroCells zv.cells (hi - lo)).toList.length <= i * r.t.sz := by
        rw [hzl, e1]
        rcases Nat.lt_or_ge i lo with h' | h'
        ·exact .inl (Nat.mul_le_mul_right _ h')
        ·exact .inr (Nat.mul_le_mul_right _ (by omega))
       rw [qMv (by rw [hzl, Array.length_toList]; omega) hout]
       obtain ⟨vs, r1, r2⟩ := h9 i hi2
       have r3 := jB r2
       have r4 := qKc h2 r1
       rw [r3] at r4
       rw [r4]
       have e5 : (r.l.take lo ++ List.replicate (hi - lo) z ++ r.l.drop hi)[i] = r.l[i] := by
        have hx : (r.l.take lo ++ List.replicate (hi - lo) z ++ r.l.drop hi)[i]? = some r.l[i] := by
         rw [yG]
         simp only [List.length_take, List.length_replicate]
         by_cases hil : i < lo
         ·rw [if_pos (by omega), List.getElem?_take_of_lt hil, List.getElem?_eq_getElem hi2]
         ·rw [if_neg (by omega), if_neg (by omega), List.getElem?_drop, <- List.getElem?_eq_getElem hi2]
          congr 1; omega
        rw [List.getElem?_eq_getElem hi', Option.some.injEq] at hx; exact hx
       rw [e5]
       refine zP (fun y hy => ⟨hy, hin⟩) (jA (fun _ hy => hy) aF (fun y o hy hb => ?_) r2)
       rw [k4 y (h7 i y hi2 hy).2]; exact hb)
    rw [hlen] at hnew
    have hval : ρ.val d = .slice (some ⟨b, 0, none⟩) r.l.length c := by rw [q1, h1]
    rw [hval]; exact hnew
theorem yS {α β : Type} [DecidableEq α] {R : α × β -> MapEntry -> Prop} {dd : TypeDesc} {kv : Value} {k0 : α} (H : ∀ p e, R p e -> Instr.sameNow dd kv e.key = some (decide (p.1 = k0))) :
  ∀ (l : List (α × β)) (es : List MapEntry) (i : Nat), jC R l es ->
   (qFi l k0 = none /\ Instr.findNow dd kv es i = some none /\ ∀ y e', R (k0, y) e' -> jC R (qIi l k0 y) (es ++ [e'])) \/
   (∃ x j e, qFi l k0 = some x /\ es[j]? = some e /\ R (k0, x) e /\ Instr.findNow dd kv es i = some (some (i + j, e.val)) /\ ∀ y e', R (k0, y) e' -> jC R (qIi l k0 y) (es.set j e'))
 | [], [], i, _ => .inl ⟨rfl, rfl, fun y e' h => ⟨h, trivial⟩⟩
 | p :: l, e :: es, i, h => by
  have hH := H p e h.1
  by_cases hk : p.1 = k0
  ·refine .inr ⟨p.2, 0, e, by rw [qFi, if_pos hk], rfl, by rw [<- hk]; exact h.1, ?_, fun y e' h' => ?_⟩
   ·rw [Instr.findNow, hH, decide_eq_true hk]; rfl
   ·rw [qIi, if_pos hk]; exact ⟨h', h.2⟩
  ·have hn : Instr.findNow dd kv (e :: es) i = Instr.findNow dd kv es (i + 1) := by rw [Instr.findNow, hH, decide_eq_false hk]
   rcases yS H l es (i + 1) h.2 with ⟨h1, h2, h3⟩ | ⟨x, j, e0, h1, h2, h3, h4, h5⟩
   ·refine .inl ⟨by rw [qFi, if_neg hk]; exact h1, by rw [hn]; exact h2, fun y e' h' => ?_⟩
    rw [qIi, if_neg hk]; exact ⟨h.1, h3 y e' h'⟩
   ·refine .inr ⟨x, j + 1, e0, by rw [qFi, if_neg hk]; exact h1, by simpa using h2, h3, by rw [hn, h4]; congr 3; omega, fun y e' h' => ?_⟩
    rw [qIi, if_neg hk]; exact ⟨h.1, h5 y e' h'⟩
theorem qAe {b : Nat} {es : Array MapEntry} {c : Nat} (hb : w.heap[b]? = some (.map es c)) : (getObj b).run P w = .ok (.map es c) w := by
 simp [getObj, Sem.run, hb]
theorem qB2 {kt : TypeId} {k : IntKind} {v : Value} {e : Bool} (hu : P.underlying kt = some (.int k)) : (Instr.checkKey e 10000 kt v).run P w = .ok () w := by
 show (Instr.checkKey e (9999 + 1) kt v).run P w = .ok () w
 rw [Instr.checkKey, Sem.run_bind, run_underlying hu w, Result.andThen_ok]; rfl
theorem qB1 {kt : TypeId} {v : Value} {e : Bool} (hu : P.underlying kt = some .string) : (Instr.checkKey e 10000 kt v).run P w = .ok () w := by
 show (Instr.checkKey e (9999 + 1) kt v).run P w = .ok () w
 rw [Instr.checkKey, Sem.run_bind, run_underlying hu w, Result.andThen_ok]; rfl
theorem qCC (q : IntKind) (a b : Int) : Instr.sameNow (.int q) (.int q a) (.int q b) = some (decide (b = a)) := by
 rw [Instr.sameNow, if_pos rfl]; congr 1; rw [Bool.eq_iff_iff, beq_iff_eq, decide_eq_true_eq]; exact eq_comm
theorem qFQ (x y : ByteArray) : (x == y) = decide (x.data = y.data) := by
 cases x with | mk x => cases y with | mk y =>
 show (x == y) = _
 rw [Bool.eq_iff_iff, beq_iff_eq, decide_eq_true_eq]
theorem qCB (a b : List UInt8) : Instr.sameNow .string (.string ⟨⟨a⟩⟩) (.string ⟨⟨b⟩⟩) = some (decide (b = a)) := by
 rw [Instr.sameNow, qFQ]; congr 1; rw [Bool.eq_iff_iff, decide_eq_true_eq, decide_eq_true_eq, Array.mk.injEq]; exact eq_comm
theorem qI1 {q : IntKind} {n : Int} : (Instr.keyThatStays (.int q n) (.int q n)).run P w = .ok (.int q n) w := by
 unfold Instr.keyThatStays
 rw [if_pos (show Instr.sameBits 10000 (.int q n) (.int q n) = true by rw [Instr.sameBits]; simp)]; rfl
theorem qI0 {s : ByteArray} : (Instr.keyThatStays (.string s) (.string s)).run P w = .ok (.string s) w := by
 unfold Instr.keyThatStays
 rw [if_pos (show Instr.sameBits 10000 (.string s) (.string s) = true by rw [Instr.sameBits, qFQ, decide_eq_true rfl])]; rfl
def qKF (F : Nat -> Prop) (w : World) (t : Ty) (p : t.T) (e : MapEntry) : Prop := Rd F w t p [e.key, e.val]
theorem vU {F : Nat -> Prop} {k v : Ty} {p : (Ty.prod k v).T} {e : MapEntry} (hk : k.sz = 1) (h : qKF F w (.prod k v) p e) : Rd F w k p.1 [e.key] /\ Rd F w v p.2 [e.val] := by
 obtain ⟨v1, v2, e1, h1, h2⟩ := (h : ∃ v1 v2, [e.key, e.val] = v1 ++ v2 /\ Rd F w k p.1 v1 /\ Rd F w v p.2 v2)
 have := qB7 h1
 match v1, this with
 | [x], _ =>
  simp only [List.cons_append, List.nil_append, List.cons.injEq] at e1
  obtain ⟨rfl, rfl⟩ := e1
  exact ⟨h1, h2⟩
 | [], hh => rw [hk] at hh; cases hh
 | _ :: _ :: _, hh => rw [hk] at hh; simp at hh
theorem qBm {F : Nat -> Prop} {k v : Ty} {x : k.T} {y : v.T} {e : MapEntry} (h1 : Rd F w k x [e.key]) (h2 : Rd F w v y [e.val]) : qKF F w (.prod k v) (x, y) e := ⟨[e.key], [e.val], rfl, h1, h2⟩
theorem qJT {F : Nat -> Prop} {kt : TypeId} {k v : Ty} {l : List (Ty.prod k v).T} {es : Array MapEntry} {kc : CV} {kv : Value} (ha : jC (qKF F w (.prod k v)) l es.toList) (hkv : CVR ρ w kc kv)
  (hi : ∀ q, k = .int q -> P.underlying kt = some (.int q)) (hs : k = .str -> P.underlying kt = some .string) {zs : List CV} :
  (∀ cs b, qBV (.prod k v) l kc zs = some (cs, b) -> ∃ z, v.pack1 zs = some z /\ ((b = false /\ cs = v.cells z /\ (Instr.findKey kt kv es.toList).run P w = .ok none w) \/
   (∃ x j val, b = true /\ cs = v.cells x /\ Rd F w v x [val] /\ (Instr.findKey kt kv es.toList).run P w = .ok (some (j, val)) w))) /\
  (∀ cs l', qDC (.prod k v) l kc cs = some l' -> ∃ y, v.pack1 cs = some y /\ (∀ e, (Instr.checkKey e 10000 kt kv).run P w = .ok () w) /\
   (((Instr.findKey kt kv es.toList).run P w = .ok none w /\ ∀ e' : MapEntry, e'.key = kv -> Rd F w v y [e'.val] -> jC (qKF F w (.prod k v)) l' (es.toList ++ [e'])) \/
    (∃ j val e, (Instr.findKey kt kv es.toList).run P w = .ok (some (j, val)) w /\ es[j]? = some e /\ (Instr.keyThatStays e.key kv).run P w = .ok kv w /\ ∀ e' : MapEntry, e'.key = kv -> Rd F w v y [e'.val] -> jC (qKF F w (.prod k v)) l' (es.toList.set j e')))) := by
 cases k with
 | int q =>
  have hu := hi q rfl
  refine ⟨fun cs b hg => ?_, fun cs l' hp => ?_⟩
  ·cases kc <;> simp only [qBV] at hg <;> try (cases hg; done)
   rename_i q' n
   split at hg
   ·rename_i hq; subst hq
    split at hg
    ·rename_i z hz
     simp only [Option.some.injEq, Prod.mk.injEq] at hg
     obtain ⟨rfl, rfl⟩ := hg
     have hkv' : kv = .int q' n := hkv
     refine ⟨z, hz, ?_⟩
     rcases yS (R := qKF F w (.prod (.int q') v)) (dd := .int q') (kv := kv) (k0 := n) (fun p e hpe => by
      have := (vU rfl hpe).1
      rw [Rd] at this
      simp only [List.cons.injEq, and_true] at this
      rw [this, hkv']
      exact qCC q' n p.1) l es.toList 0 ha with ⟨h1, h2, _⟩ | ⟨x, j, e, h1, _, h3, h4, _⟩
     ·left; rw [h1]; exact ⟨rfl, rfl, by simp [Instr.findKey, run_underlying hu, h2]⟩
     ·right; rw [h1]; exact ⟨x, 0 + j, e.val, rfl, rfl, (vU rfl h3).2, by simp [Instr.findKey, run_underlying hu, h4]⟩
    ·cases hg
   ·cases hg
  ·cases kc <;> simp only [qDC] at hp <;> try (cases hp; done)
   rename_i q' n
   split at hp
   ·rename_i hq; subst hq
    split at hp
    ·rename_i y hy
     simp only [Option.some.injEq] at hp
     subst hp
     have hkv' : kv = .int q' n := hkv
     refine ⟨y, hy, fun e => qB2 hu, ?_⟩
     rcases yS (R := qKF F w (.prod (.int q') v)) (dd := .int q') (kv := kv) (k0 := n) (fun p e hpe => by
      have := (vU rfl hpe).1
      rw [Rd] at this
      simp only [List.cons.injEq, and_true] at this
      rw [this, hkv']
      exact qCC q' n p.1) l es.toList 0 ha with ⟨h1, h2, h5⟩ | ⟨x, j, e, h1, h6, h3, h4, h5⟩
     ·left; exact ⟨by simp [Instr.findKey, run_underlying hu, h2], fun e' e1 e2 => h5 y e' (qBm (by rw [e1, hkv', Rd]) e2)⟩
     ·right
      have hk3 := (vU rfl h3).1
      rw [Rd] at hk3
      simp only [List.cons.injEq, and_true] at hk3
      refine ⟨j, e.val, e, by simp [Instr.findKey, run_underlying hu, h4], by simpa using h6, ?_, fun e' e1 e2 => h5 y e' (qBm (by rw [e1, hkv', Rd]) e2)⟩
      rw [hk3, hkv']; exact qI1
    ·cases hp
   ·cases hp
 | str =>
  have hu := hs rfl
  refine ⟨fun cs b hg => ?_, fun cs l' hp => ?_⟩
  ·cases kc <;> simp only [qBV] at hg <;> try (cases hg; done)
   rename_i n
   split at hg
   ·rename_i z hz
    simp only [Option.some.injEq, Prod.mk.injEq] at hg
    obtain ⟨rfl, rfl⟩ := hg
    have hkv' : kv = .string ⟨⟨n⟩⟩ := hkv
    refine ⟨z, hz, ?_⟩
    rcases yS (R := qKF F w (.prod .str v)) (dd := .string) (kv := kv) (k0 := n) (fun p e hpe => by
     have := (vU rfl hpe).1
     rw [Rd] at this
     simp only [List.cons.injEq, and_true] at this
     rw [this, hkv']
     exact qCB n p.1) l es.toList 0 ha with ⟨h1, h2, _⟩ | ⟨x, j, e, h1, _, h3, h4, _⟩
    ·left; rw [h1]; exact ⟨rfl, rfl, by simp [Instr.findKey, run_underlying hu, h2]⟩
    ·right; rw [h1]; exact ⟨x, 0 + j, e.val, rfl, rfl, (vU rfl h3).2, by simp [Instr.findKey, run_underlying hu, h4]⟩
   ·cases hg
  ·cases kc <;> simp only [qDC] at hp <;> try (cases hp; done)
   rename_i n
   split at hp
   ·rename_i y hy
    simp only [Option.some.injEq] at hp
    subst hp
    have hkv' : kv = .string ⟨⟨n⟩⟩ := hkv
    refine ⟨y, hy, fun e => qB1 hu, ?_⟩
    rcases yS (R := qKF F w (.prod .str v)) (dd := .string) (kv := kv) (k0 := n) (fun p e hpe => by
     have := (vU rfl hpe).1
     rw [Rd] at this
     simp only [List.cons.injEq, and_true] at this
     rw [this, hkv']
     exact qCB n p.1) l es.toList 0 ha with ⟨h1, h2, h5⟩ | ⟨x, j, e, h1, h6, h3, h4, h5⟩
    ·left; exact ⟨by simp [Instr.findKey, run_underlying hu, h2], fun e' e1 e2 => h5 y e' (qBm (by rw [e1, hkv', Rd]) e2)⟩
    ·right
     have hk3 := (vU rfl h3).1
     rw [Rd] at hk3
     simp only [List.cons.injEq, and_true] at hk3
     refine ⟨j, e.val, e, by simp [Instr.findKey, run_underlying hu, h4], by simpa using h6, ?_, fun e' e1 e2 => h5 y e' (qBm (by rw [e1, hkv', Rd]) e2)⟩
     rw [hk3, hkv']; exact qI0
   ·cases hp
 | _ =>
  refine ⟨fun cs b hg => ?_, fun cs l' hp => ?_⟩
  ·cases kc <;> simp [qBV] at hg
  ·cases kc <;> simp [qDC] at hp
theorem qHo (hC : jK P C) {t vt : TypeId} {k v : Ty} {vi : TI} (h : qGn C t = some (k, v, vt, vi)) :
  ∃ kt, P.underlying t = some (.map kt vt) /\ (∀ q, k = .int q -> P.underlying kt = some (.int q)) /\ (k = .str -> P.underlying kt = some .string) /\ C.ti vt = some vi /\ vi.sty = some v /\ v.refs = false /\ v.sz = 1 := by
 unfold qGn at h
 split at h
 ·rename_i i hi
  split at h
  ·rename_i kt vt' hm
   split at h
   ·rename_i ki vi' hk hv
    split at h
    ·rename_i k' v' hks hvs
     split at h
     ·rename_i hh
      simp only [Option.some.injEq, Prod.mk.injEq] at h
      obtain ⟨rfl, rfl, rfl, rfl⟩ := h
      exact ⟨kt, (hC.ti t i hi).mpt kt vt' hm, fun q hq => (hC.ti kt ki hk).tyInt q (by rw [hks, hq]), fun hq => (hC.ti kt ki hk).tyStr (by rw [hks, hq]), hv, hvs, hh.1, hh.2⟩
     ·cases h
    ·cases h
   ·cases h
  ·cases h
 ·cases h
theorem qIk (h : Rep φ ρ st a w) {t : TypeId} {d : Nat} {k v : Ty} :
  Ans P φ (Instr.makeMap t none) a w (st.addRow d { e := 0, t := .prod k v, l := [], m := 99, hole := some (0, zF), mp := [] }) (.c (.own d)) := by
 have g := jO.push w (.map #[] 0)
 have hlt : ∀ {y}, y < w.heap.size -> y ≠ w.heap.size := fun h => Nat.ne_of_lt h
 have key := h.addRowD (w' := { w with heap := w.heap.push (.map #[] 0) }) g (d := d) (r := { e := 0, t := .prod k v, l := [], m := 99, hole := some (0, zF), mp := [] }) (v := .map (some w.heap.size)) (B := fun y => y = w.heap.size)
  (zJ.mkMap rfl rfl ⟨w.heap.size, #[], 0, rfl, by simp, rfl, trivial⟩) (fun hh => absurd rfl hh) (fun y hy => by
   subst hy
   refine ⟨fun hf => ?_, by simp, .inr h.grow⟩
   have := (h.Fbd _ hf).1; omega) (fun e r' _ he y hy hy' => by have := (h.rF e r' he y hy).2.1; omega) (fun b x hb hh => by
    obtain ⟨arr, fr, h1, _⟩ := h.boxes b x hb
    have := h1.lt; omega)
 refine ⟨_, .map (some w.heap.size), _, ?_, key, ?_⟩
 ·simp [Instr.makeMap, newObj, Sem.run]
 ·simp [SVR, qEH, CVR, zQ, Env.setRow, Value.oneCell']
theorem qHp (h : Rep φ ρ st a w) {d : Nat} {r : Row} {u : Value} (hu : CVR ρ w (.own d) u) (hr : qL d st.rows = some r) (hm : r.isMap = true) :
  r.l = [] /\ ∃ b es clk, u = .map (some b) /\ ρ.val d = .map (some b) /\ w.heap[b]? = some (.map es clk) /\ ρ.ft d b /\ jC (qKF ρ.F w r.t) r.mp es.toList := by
 obtain ⟨_, _, h3, _⟩ := h.rows d r hr
 obtain ⟨h4, b, es, clk, h5, h6, h7, h8⟩ := zJ.map hm h3
 exact ⟨h4, b, es, clk, by rw [<- h5]; exact hu.1, h5, h6, h7, h8⟩
theorem qJx {k v : Ty} {l : List (Ty.prod k v).T} {kc : CV} {zs : List CV} {q : List CV × Bool} (h : qBV (.prod k v) l kc zs = some q) {kt : TypeId} (hi : ∀ q, k = .int q -> P.underlying kt = some (.int q)) (hs : k = .str -> P.underlying kt = some .string) (e : Bool) (kv : Value) :
  (Instr.checkKey e 10000 kt kv).run P w = .ok () w := by
 cases k with
 | int q => exact qB2 (hi q rfl)
 | str => exact qB1 (hs rfl)
 | _ => cases kc <;> simp [qBV] at h
theorem qJz (hC : jK P C) (h : Rep φ ρ st a w) {t vt : TypeId} {k v : Ty} {vi : TI} (ht : qGn C t = some (k, v, vt, vi)) {d : Nat} {kc : CV} {u kv : Value} (hu : CVR ρ w (.own d) u) (hk : CVR ρ w kc kv) {r : Row} (hr : qL d st.rows = some r)
  (hm : r.isMap = true) (hty : r.t = .prod k v) {c : CV} {b ok : Bool} (hg : qBV r.t r.mp kc vi.zero = some ([c], b)) :
  Ans P φ (Instr.lookup t u kv ok) a w st (if ok then .tup [.c c, .c (.bool b)] else .c c) := by
 obtain ⟨kt, t1, t2, t3, t4, t5, t6, t7⟩ := qHo hC ht
 obtain ⟨_, bk, es, clk, rfl, hv, hb, hf, ha⟩ := qHp h hu hr hm
 obtain ⟨re, rt, rl, rm, rh, rp⟩ := r
 simp only at hty hg ha
 subst hty
 have hchk := qJx (P := P) (w := w) hg t2 t3 es.isEmpty kv
 obtain ⟨inf, i1, _, _, z, i2, i3, _, _, i4⟩ := (hC.ti vt vi t4).inf
 have hag : vi.isAgg = false := by
  unfold TI.sty at t5; cases hh : vi.isAgg with
  | false => rfl
  | true => rw [hh] at t5; cases t5
 have hz : (zeroValue vt).run P w = .ok z w := by simp [zeroValue, typeInfo, i1, i2]
 have fin : ∀ {val : Value} {x : v.T}, Rd ρ.F w v x [val] -> [c] = v.cells x -> CVR ρ w c val := fun hx hc => by
  have := qF4 hx
  rw [<- hc] at this
  exact zL this.1
 obtain ⟨zz, hzz, hh⟩ := (qJT (P := P) ha hk t2 t3 (zs := vi.zero)).1 _ _ hg
 have hzr : Rd ρ.F w v zz [z] := qCg hzz (by
  have := i3 ρ w
  rw [i4 hag] at this
  exact this.imp fun c v hc => qF5 (zL hc))
 have done : ∀ {val : Value}, (Instr.lookup t (.map (some bk)) kv ok).run P w = .ok (if ok then .tuple #[val, .bool b] else val) w -> CVR ρ w c val -> Ans P φ (Instr.lookup t (.map (some bk)) kv ok) a w st (if ok then .tup [.c c, .c (.bool b)] else .c c) := fun {val} h1 h2 => by
  refine ⟨ρ, _, w, h1, h, ?_⟩
  cases ok with
  | true => exact ⟨_, rfl, h2, rfl, trivial⟩
  | false => exact h2
 rcases hh with ⟨rfl, h1, h2⟩ | ⟨x, j, val, rfl, h1, h2, h3⟩
 ·refine done (val := z) ?_ (fin hzr h1)
  cases ok <;> simp [Instr.lookup, run_underlying t1, qAe hb, hchk, h2, hz, Result.andThen]
 ·refine done (val := val) ?_ (fin h2 h1)
  cases ok <;> simp [Instr.lookup, run_underlying t1, qAe hb, hchk, h3, Result.andThen]
theorem qDt {b : Nat} {es es' : Array MapEntry} {c c' : Nat} (hb : w.heap[b]? = some (.map es c)) : (setObj b (.map es' c')).run P w = .ok () { w with heap := w.heap.setIfInBounds b (.map es' c') } := by
 simp [setObj, Sem.run, hb]
theorem qBU (hC : jK P C) (h : Rep φ ρ st a w) {t vt : TypeId} {k v : Ty} {vi : TI} (ht : qGn C t = some (k, v, vt, vi)) {d : Nat} {kc vc : CV} {u kv vv : Value} (hu : CVR ρ w (.own d) u) (hk : CVR ρ w kc kv) (hvc : CVR ρ w vc vv) {r : Row} (hr : qL d st.rows = some r)
  (hm : r.isMap = true) (hty : r.t = .prod k v) {l : List r.t.T} (hg : qDC r.t r.mp kc [vc] = some l) :
  ∃ w', (Instr.mapUpdate t u kv vv).run P w = .ok () w' /\ Rep φ (ρ.setRow d (ρ.val d) r.t (ρ.ft d)) { st.kill (CV.nested d) with rows := put d { r with mp := l } st.rows } a w' := by
 obtain ⟨kt, t1, t2, t3, t4, t5, t6, t7⟩ := qHo hC ht
 obtain ⟨hl0, bk, es, clk, rfl, hv, hb, hf, ha⟩ := qHp h hu hr hm
 have hblt : bk < w.heap.size := by
  rcases Nat.lt_or_ge bk w.heap.size with h' | h'
  ·exact h'
  ·rw [Array.getElem?_eq_none h'] at hb; cases hb
 have fin : ∀ (es' : Array MapEntry) (c' : Nat), (Instr.mapUpdate t (.map (some bk)) kv vv).run P w = .ok () { w with heap := w.heap.setIfInBounds bk (.map es' c') } -> jC (qKF ρ.F w r.t) l es'.toList ->
   ∃ w', (Instr.mapUpdate t (.map (some bk)) kv vv).run P w = .ok () w' /\ Rep φ (ρ.setRow d (ρ.val d) r.t (ρ.ft d)) { st.kill (CV.nested d) with rows := put d { r with mp := l } st.rows } a w' := fun es' c' hrun hes => by
  have hk' : ∀ b, b < w.heap.size -> ¬ ρ.ft d b -> (w.heap.setIfInBounds bk (.map es' c'))[b]? = w.heap[b]? := fun b _ hn => by
   rw [Array.getElem?_setIfInBounds_ne]; rintro rfl; exact hn hf
  have hag : qC ρ.F w { w with heap := w.heap.setIfInBounds bk (.map es' c') } := fun b o hb' ho => by
   have hlt : b < w.heap.size := (h.Fbd b hb').1
   rw [show ({ w with heap := w.heap.setIfInBounds bk (.map es' c') } : World).heap[b]? = w.heap[b]? from hk' b hlt fun hh => (h.rF d r hr b hh).1 hb']; exact ho
  refine ⟨_, hrun, h.putRowD (r' := { r with mp := l }) (B := ρ.ft d) hr (by simp) ⟨rfl, rfl, rfl⟩ hk' rfl (zJ.mkMap hm hl0 ⟨bk, es', c', hv, by simp [hblt], hf, hes.imp fun _ _ hh => zK (fun _ h => h) hag hh⟩) (fun hh => absurd hl0 hh) (fun y hy => .inl hy)⟩
 obtain ⟨re, rt, rl, rm, rh, rp⟩ := r
 simp only at hty hg ha l
 subst hty
 obtain ⟨y, hy, hchk, hh⟩ := (qJT (P := P) ha hk t2 t3 (zs := [])).2 _ _ hg
 have hyr : Rd ρ.F w v y [vv] := qCg hy ⟨qF5 hvc, trivial⟩
 rcases hh with ⟨h1, h2⟩ | ⟨j, val, e, h1, h2, h3, h4⟩
 ·refine fin (es.push { key := kv, val := vv, born := clk }) (clk + 1) ?_ (by simpa using h2 { key := kv, val := vv, born := clk } rfl hyr)
  simp [Instr.mapUpdate, run_underlying t1, qAe hb, hchk, h1, qDt hb, Result.andThen]
 ·have hes : es[j]? = some e := by simpa using h2
  refine fin (es.modify j fun e => { e with key := kv, val := vv }) clk ?_ ?_
  ·simp [Instr.mapUpdate, run_underlying t1, qAe hb, hchk, h1, hes, h3, qDt hb, Result.andThen]
  ·have := h4 { e with key := kv, val := vv } rfl hyr
   have hjl : j < es.size := by
    rcases Nat.lt_or_ge j es.size with h' | h'
    ·exact h'
    ·rw [Array.getElem?_eq_none h'] at hes; cases hes
   have e1 : (es.modify j fun e => { e with key := kv, val := vv }).toList = es.toList.set j { e with key := kv, val := vv } := by
    rw [Array.toList_modify]
    refine List.ext_getElem? fun i => ?_
    rw [List.getElem?_modify, List.getElem?_set]
    by_cases hh : j = i
    ·subst hh
     have hes' : es[j] = e := by rw [Array.getElem?_eq_getElem hjl] at hes; simpa using hes
     simp [hjl, hes']
    ·simp [hh]
   rw [e1]; exact this
end
section
variable {φ : Fix} {ρ : Env} {st : St} {a : Act} {w : World} {P : Program} {C : Ctx}
theorem qEG.ofc {s : Sem Value} {c : CV} (h : ∃ z, s.run P w = .ok z w /\ CVR ρ w c z) : qEG P ρ w s (.c c) := h
theorem qJi {p : CV} {u : Value} (hp : CVR ρ w p u) (h : (∃ b o, p = .pbox b o) \/ (∃ d i o, p = .pelt d i o) \/ (∃ e t x o, p = .pdat e t x o) \/ ∃ d i o j o2, p = .pn d i o j o2) : ∃ b o, u = .pointer (some ⟨b, o, none⟩) := by
 rcases h with ⟨b, o, rfl⟩ | ⟨d, i, o, rfl⟩ | ⟨e, t, x, o, rfl⟩ | ⟨d, i, o, j, o2, rfl⟩
 ·exact ⟨_, _, hp⟩
 ·obtain ⟨_, _, _, _, _, e⟩ := (hp : zQ ρ w (.pelt d i o) u); exact ⟨_, _, e⟩
 ·obtain ⟨_, _, _, e, _⟩ := (hp : zQ ρ w (.pdat e t x o) u); exact ⟨_, _, e⟩
 ·obtain ⟨_, _, _, _, _, _, _, _, _, _, _, _, _, _, e⟩ := (hp : zQ ρ w (.pn d i o j o2) u); exact ⟨_, _, e⟩
theorem qIj (h : Rep φ ρ st a w) {d : Nat} {r : Row} (hd : qL d st.rows = some r) (h0 : r.hole = none) (hm : r.m ≠ 0) (hl : 0 < r.l.length) {u : Value} (hu : CVR ρ w (.own d) u) {t e : TypeId} (ht : P.underlying t = some (.slice e)) (he : P.underlying e = some (.int .u8)) :
  Ans P φ (convert t t u) a w { st.kill (CV.nested d) with rows := put d r st.rows } (.c (.own d)) := by
 obtain ⟨p1, p2, p3, p4⟩ := h.rows d r hd
 have p3 := zJ.whole h0 p3
 have hv : u = ρ.val d := hu.1
 obtain ⟨M, hM⟩ : ∃ M, r.m = M + 1 := ⟨r.m - 1, by omega⟩
 rw [hM, qJ] at p3
 obtain ⟨v', q1, a3, c3, q2, q3⟩ := p3
 simp only [List.cons.injEq, and_true] at q1
 rcases q3 with ⟨q3, _⟩ | ⟨b, arr, fr, rfl, g2, g3, g4, g5, g6, Bs, g7, g8, g9⟩
 ·rw [q3] at hl; exact absurd hl (by simp)
 have hblt : b < w.heap.size := by
  rcases Nat.lt_or_ge b w.heap.size with h' | h'
  ·exact h'
  ·rw [Array.getElem?_eq_none h'] at g2; cases g2
 generalize hfr' : (if fr.1 == fr.2 then (arr.size, arr.size + 1) else (min fr.1 arr.size, max fr.2 (arr.size + 1)) : Nat × Nat) = fr'
 have hb' : (w.freeze ⟨b, arr.size, none⟩ 1).heap[b]? = some (.cells arr r.e fr') := by
  unfold World.freeze
  rw [if_neg (by decide)]
  simp only [Array.getElem?_modify, if_true, g2, Option.map_some]
  rw [<- hfr']
 have hk : ∀ y, y ≠ b -> (w.freeze ⟨b, arr.size, none⟩ 1).heap[y]? = w.heap[y]? := fun y hy => by
  unfold World.freeze
  rw [if_neg (by decide)]
  rw [Array.getElem?_modify, if_neg (fun e : b = y => hy e.symm)]
 have hsz : (w.freeze ⟨b, arr.size, none⟩ 1).heap.size = w.heap.size := by
  unfold World.freeze
  rw [if_neg (by decide)]
  simp
 have hio : zD w (w.freeze ⟨b, arr.size, none⟩ 1) := by
  unfold World.freeze
  rw [if_neg (by decide)]
  exact ⟨rfl, rfl, rfl⟩
 have hf' : qBq arr.size fr' := by
  rw [<- hfr']
  by_cases hh : fr.1 = fr.2
  ·rw [if_pos (by simpa using hh)]
   exact ⟨by simp, fun o ho hx => by simp only at hx; omega⟩
  ·rw [if_neg (by simpa using hh)]
   obtain ⟨f1, f2⟩ := g3
   refine ⟨by simp only; omega, fun o ho hx => ?_⟩
   simp only at hx
   have h1 : fr.1 < arr.size := by omega
   exact f2 fr.1 h1 ⟨Nat.le_refl _, by omega⟩
 have hrun : (convert t t u).run P w = .ok u (w.freeze ⟨b, arr.size, none⟩ 1) := by
  have hsh : w.shape? b = some (r.e, arr.size) := by
   unfold World.shape?
   rw [g2]
  rw [hv, q1, q2]
  simp [convert, run_underlying ht, run_underlying he, markStringish, hsh]
 have hcell : ∀ y o v, w.cell? ⟨y, o, none⟩ = some v -> (w.freeze ⟨b, arr.size, none⟩ 1).cell? ⟨y, o, none⟩ = some v := fun y o v hc => by
  by_cases hy : y = b
  ·subst hy
   rw [jV] at hc ⊢
   obtain ⟨cs, e1, f1, k1, k2⟩ := hc
   rw [g2] at k1
   cases k1
   exact ⟨_, _, _, hb', k2⟩
  ·unfold World.cell? at hc ⊢
   rw [hk y hy]; exact hc
 have agF : qC ρ.F w (w.freeze ⟨b, arr.size, none⟩ 1) := fun y o hy ho => by
  rw [hk y (fun e => by subst e; exact (h.rF d r hd _ g6).1 hy)]; exact ho
 have hrow : qJ ρ.F (w.freeze ⟨b, arr.size, none⟩ 1) (.sl r.e r.t) r.m r.l (ρ.ft d) [ρ.val d] := by
  rw [hM, qJ]
  refine ⟨v', by rw [q1], some ⟨b, 0, none⟩, c3, q2, .inr ⟨b, arr, fr', rfl, hb', hf', g4, g5, g6, Bs, g7, g8, fun i hi => ?_⟩⟩
  obtain ⟨vs, k1, k2⟩ := g9 i hi
  refine ⟨vs, fun j hj => hcell _ _ _ (k1 j hj), jA (fun _ hy => hy) agF (fun y o hy ho => ?_) k2⟩
  rw [hk y (fun e => (g7 i y hi hy).2 e)]; exact ho
 have hput := h.putRow hd (r' := r) (B := ρ.ft d) (by rw [hsz]; exact Nat.le_refl _) hio (fun y _ hy => hk y (fun e => hy (e ▸ g6))) rfl h0 hrow p4 fun y hy => .inl hy
 exact ⟨_, u, _, hrun, hput, (⟨by simp [Env.setRow, hv], hu.2⟩ : CVR (ρ.setRow d (ρ.val d) r.t (ρ.ft d)) (w.freeze ⟨b, arr.size, none⟩ 1) (.own d) u)⟩
theorem qMX (hC : jK P C) (h : Rep φ ρ st a w) {d : Nat} {s t : TypeId} {x : CV} {u : Value} {r : R1} (hx : CVR ρ w x u) (hs : qKb C st d s t x = some r) (hg : r.g = true) : Ans P φ (convert s t u) a w r.st r.v := by
 unfold qKb at hs
 cases hj : C.ti s with
 | none => simp [hj] at hs
 | some j =>
  cases hi : C.ti t with
  | none => simp [hj, hi] at hs
  | some i =>
   simp only [hj, hi] at hs
   have Tj := hC.ti s j hj
   have Ti := hC.ti t i hi
   obtain ⟨sd, hsd, _⟩ := Tj.und
   split at hs
   ·rename_i k' n k hty
    simp only [ok1, Option.some.injEq] at hs; subst hs
    refine Ans.pure h (x := .int k (k.wrap n)) ?_ rfl
    rw [show u = .int k' n from hx]
    simp [convert, run_underlying hsd, run_underlying (Ti.tyInt k hty), Conv.intToInt]
   ·rename_i s' hty
    simp only [ok1, Option.some.injEq] at hs; subst hs
    refine Ans.pure h (x := .string ⟨⟨s'⟩⟩) ?_ rfl
    rw [show u = .string ⟨⟨s'⟩⟩ from hx]
    simp [convert, run_underlying hsd, run_underlying (Ti.tyStr hty)]
   ·rename_i s' e hty
    split at hs
    ·cases hs
    ·rename_i he
     simp only [Option.some.injEq] at hs; subst hs
     rw [show u = .string ⟨⟨s'⟩⟩ from hx]
     exact qLm hC h hsd (Ti.tySl _ _ hty) (qEk hC (by simpa using he))
   ·rename_i d' e hty
    split at hs
    ·cases hs
    ·rename_i he
     simp only [Bool.not_eq_true', Bool.not_eq_false, Bool.and_eq_true, decide_eq_true_eq] at he
     split at hs
     ·rename_i r0 hr0
      split at hs
      ·cases hs
      ·rename_i hm
       simp only [Option.some.injEq] at hs; subst hs
       obtain ⟨rfl, he2⟩ := he
       exact qIj h (qM hr0) (qN hr0) hm (by simpa using hg) hx (Ti.tySl _ _ hty) (qEk hC he2)
     ·cases hs
   ·rename_i hty
    split at hs
    ·rename_i e' t' hje
     split at hs
     ·cases hs
     ·rename_i he
      split at hs
      ·rename_i e2 l hr
       simp only [ok1, Option.some.injEq] at hs; subst hs
       have hx0 : zQ ρ w _ u := qBO (by intro f sh n cs hh; rw [hh] at hr; simp [xL] at hr) hx
       have hrd := wW h hr hx0
       refine Ans.pure h (x := .string ⟨⟨qX l⟩⟩) ?_ rfl
       have hb := qI9 (P := P) hrd
       obtain ⟨A, c, e3, _⟩ := hrd
       rw [e3] at hb ⊢
       have he' := qEk hC (by simpa using he)
       simp [convert, run_underlying (Tj.tySl _ _ hje), run_underlying (Ti.tyStr hty), run_underlying he', hb]
      ·cases hs
    ·cases hs
   ·cases hs
theorem Did.sees {o : Oper} {s : Sem Value} {v : SV} (h : Rep φ ρ st a w) (he : execOp a.eval o = (do pure (.value (<- s)))) (hs : qEG P ρ w s v) : Did P φ o a w st v := qEG.did h hs he
theorem qEX (hC : jK P C) (h : Rep φ ρ st a w) {t : TypeId} {g : Bool} {n : Nat} (hs : qCv C t = some (g, n)) {p : CV} {v : SV} {u x : Value} (hp : CVR ρ w p u) (hv : SVR ρ w v x)
  (hn0 : n ≠ 0) (hn : v.cells?.map List.length = some n) {r : R1} (hst : qG5 st p v = some r) (hg : r.g = true) : r.v = .undef /\ qDa P φ (Instr.storeAt t u x) a w r.st := by
 unfold qG5 at hst
 cases hcs : v.cells? with
 | none => simp [hcs] at hst
 | some cs =>
  simp only [hcs] at hst
  have hn' : cs.length = n := by simpa [hcs] using hn
  have hu := qAk hcs hv
  cases p with
  | pbox b off =>
   simp only at hst
   split at hst
   ·rename_i bx hbx
    split at hst
    ·cases hst
    ·rename_i hro
     split at hst
     ·rename_i cs' hset
      simp only [ok1, Option.some.injEq] at hst; subst hst
      rw [show u = .pointer (some ⟨ρ.blk b, off, none⟩) from hp]
      exact ⟨rfl, qF9 hC h hs hbx (by simpa using hro) hu hn' hset⟩
     ·cases hst
   ·cases hst
  | pelt d i off =>
   simp only at hst
   split at hst
   ·rename_i re rt rl rm i0 off0 rmp hlook
    split at hst
    ·rename_i d2
     split at hst
     ·cases hst
     ·rename_i hoff
      have hmk : off0 < zF := Nat.lt_of_not_le fun h => hoff (.inr h)
      obtain rfl : off0 = off := Classical.byContradiction fun h => hoff (.inl h)
      split at hst
      ·rename_i r2 hr2
       split at hst
       ·cases hst
       ·rename_i hm
        split at hst
        ·rename_i xx hset
         simp only [Option.some.injEq] at hst; subst hst
         simp only [decide_eq_true_eq] at hg
         subst hg
         exact ⟨rfl, qEZ hC h hs (r := ⟨re, rt, rl, rm, some (i0, off0), rmp⟩) hp hu hn' hlook rfl hr2 hm hset hmk⟩
        ·cases hst
      ·cases hst
    ·cases hst
   split at hst
   ·split at hst
    ·cases hst
    ·split at hst
     ·rename_i cs' m st' hsink
      split at hst
      ·rename_i r' hr'
       split at hst
       ·cases hst
       ·rename_i hm
        split at hst
        ·rename_i xx hset
         simp only [ok1, Option.some.injEq] at hst; subst hst
         exact ⟨rfl, qF8 hC h hs hp hu hn' hn0 hsink hr' hm hset⟩
        ·cases hst
      ·cases hst
     ·cases hst
   ·cases hst
  | pn d i off j off2 =>
   simp only at hst
   split at hst
   ·rename_i r' hr'
    split at hst
    ·cases hst
    ·rename_i hm
     split at hst
     ·rename_i e u' l hat
      split at hst
      ·cases hst
      ·rename_i href
       split at hst
       ·rename_i xx hset
        split at hst
        ·rename_i yy hsl
         simp only [ok1, Option.some.injEq] at hst; subst hst
         exact ⟨rfl, qEY hC h hs hp hu hn' hn0 hr' hm hat (by simpa using href) hset hsl⟩
        ·cases hst
       ·cases hst
     ·cases hst
   ·cases hst
  | _ => simp at hst
theorem qBh {args : Array Operand} {x : CV} (ha : jC (CVR ρ w) [x] (args.toList.map a.eval)) : ∃ u, args.map a.eval = #[u] /\ CVR ρ w x u := by
 cases hm : args.toList.map a.eval with
 | nil => rw [hm] at ha; exact ha.elim
 | cons u us =>
  rw [hm] at ha
  cases us with
  | cons _ _ => exact ha.2.elim
  | nil => exact ⟨u, by apply Array.ext'; simpa using hm, ha.1⟩
theorem qLr {args : Array Operand} {x y : CV} (ha : jC (CVR ρ w) [x, y] (args.toList.map a.eval)) : ∃ u v, args.map a.eval = #[u, v] /\ CVR ρ w x u /\ CVR ρ w y v := by
 cases hm : args.toList.map a.eval with
 | nil => rw [hm] at ha; exact ha.elim
 | cons u us =>
  rw [hm] at ha
  cases us with
  | nil => exact ha.2.elim
  | cons v vs =>
   cases vs with
   | cons _ _ => exact ha.2.2.elim
   | nil => exact ⟨u, v, by apply Array.ext'; simpa using hm, ha.1, ha.2.1⟩
theorem qCE {t : TypeId} {ts : Array TypeId} {ty : TypeId} {s : List UInt8} (ht : ts[0]? = some t) (hu : P.underlying t = some .string) : (Builtin.len_ ts ty #[.string ⟨⟨s⟩⟩]).run P w = .ok (.int .i64 s.length) w := by
 unfold Builtin.len_
 simp only [ht]
 simp only [List.getElem?_toArray, List.getElem?_cons_zero]
 rw [Sem.run_bind, run_underlying hu, Result.andThen_ok]
 rfl
theorem qDu {t e : TypeId} {ts : Array TypeId} {ty : TypeId} {b : Option Addr} {n c : Nat} (ht : ts[0]? = some t) (hu : P.underlying t = some (.slice e)) : (Builtin.len_ ts ty #[.slice b n c]).run P w = .ok (.int .i64 n) w := by
 unfold Builtin.len_
 simp only [ht]
 simp only [List.getElem?_toArray, List.getElem?_cons_zero]
 rw [Sem.run_bind, run_underlying hu, Result.andThen_ok]
 rfl
theorem qKg (hC : jK P C) (h : Rep φ ρ st a w) {dst : Option Tmp} {b : Builtin} {c : Call} {ty : TypeId} {pos : String} {af : Array Edge} {gd : Option (Nat × Bool)} {d : Nat} (hcal : c.callee = .builtin b) {vs : List SV} (hvs : qGh C st c.argTypes.toList c.args.toList = some vs) {r : R1}
  (hs : qHO C st d b c.argTypes.toList vs = some r) (hg : r.g = true) : Did P φ { dst := dst, op := .call c, type := ty, pos := pos, after := af, guard := gd } a w r.st r.v := by
 have hex : ∀ s : Sem Value, (∀ cs, builtin b c.argTypes ty cs (c.args.map a.eval) = (do pure (.value (<- s)))) -> execOp a.eval { dst := dst, op := .call c, type := ty, pos := pos, after := af, guard := gd } = (do pure (.value (<- s))) := by
  intro s hb
  simp only [execOp, resolve, hcal]
  exact hb _
 unfold qHO at hs
 cases hc : cvs vs with
 | none => simp [hc] at hs
 | some xs =>
  simp only [hc] at hs
  have ha := qJ9 hc (qCh h hvs)
  split at hs
  ·
   rename_i t ts s hty
   split at hs
   ·rename_i hk
    simp only [ok1, Option.some.injEq] at hs; subst hs
    obtain ⟨u, e1, e2⟩ := qBh ha
    rw [show u = .string ⟨⟨s⟩⟩ from e2] at e1
    refine Did.sees (s := Builtin.len_ c.argTypes ty (c.args.map a.eval)) h (hex _ fun _ => rfl) ⟨_, ?_, rfl⟩
    rw [e1]
    exact qCE (t := t) (by rw [<- Array.getElem?_toList, hty]; rfl) (qBb hC hk)
   ·cases hs
  ·rename_i t ts x hne hty
   split at hs
   ·rename_i n hn
    split at hs
    ·rename_i hk
     simp only [ok1, Option.some.injEq] at hs; subst hs
     obtain ⟨u, e1, e2⟩ := qBh ha
     obtain ⟨b', c', rfl⟩ := qD5 h e2 hn
     obtain ⟨m, hm⟩ := Option.isSome_iff_exists.1 hk
     obtain ⟨e', j', hu, _⟩ := qAH hC hm
     refine Did.sees (s := Builtin.len_ c.argTypes ty (c.args.map a.eval)) h (hex _ fun _ => rfl) ⟨_, ?_, rfl⟩
     rw [e1]
     exact qDu (t := t) (by rw [<- Array.getElem?_toList, hty]; rfl) hu
    ·cases hs
   ·cases hs
  ·rename_i t t' x y hty
   rw [Option.ite_none_right_eq_some] at hs
   obtain ⟨hk, hs⟩ := hs
   ·obtain ⟨u, v, e1, e2, e3⟩ := qLr ha
    have key := qIB hC h (t := t) (tx := t') (ty := ty) (d := d) e2 e3 (by revert hk; cases y <;> exact id) hs hg
    refine Did.of_ans (s := Builtin.append_ c.argTypes ty (c.args.map a.eval)) (hex _ fun _ => rfl) ?_
    rw [e1, show c.argTypes = #[t, t'] from by apply Array.ext'; simpa using hty]
    exact key
  ·rename_i x xs'
   cases hm : kC false x xs' with
   | none => simp [hm] at hs
   | some y =>
    simp only [hm, Option.bind_some, ok1, Option.some.injEq] at hs; subst hs
    refine Did.sees (s := Builtin.min_ c.argTypes ty (c.args.map a.eval)) h (hex _ fun _ => rfl) ?_
    unfold Builtin.min_
    simp only [Array.toList_map]
    cases hl : c.args.toList.map a.eval with
    | nil => rw [hl] at ha; exact ha.elim
    | cons u us => rw [hl] at ha; exact qJt ha.1 ha.2 hm
  ·rename_i x xs'
   cases hm : kC true x xs' with
   | none => simp [hm] at hs
   | some y =>
    simp only [hm, Option.bind_some, ok1, Option.some.injEq] at hs; subst hs
    refine Did.sees (s := Builtin.max_ c.argTypes ty (c.args.map a.eval)) h (hex _ fun _ => rfl) ?_
    unfold Builtin.max_
    simp only [Array.toList_map]
    cases hl : c.args.toList.map a.eval with
    | nil => rw [hl] at ha; exact ha.elim
    | cons u us => rw [hl] at ha; exact qJv ha.1 ha.2 hm
  ·rename_i t d' lo hi hty
   split at hs
   ·rename_i r' hrow
    split at hs
    ·rename_i e ei u' hst
     split at hs
     ·rename_i z hz
      split at hs
      ·rename_i hk
       obtain ⟨rfl, hk2, hk3⟩ := hk
       simp only [Option.some.injEq] at hs; subst hs
       obtain ⟨u, e1, e2⟩ := qBh ha
       obtain ⟨M, hM⟩ : ∃ M, r'.m = M + 1 := ⟨r'.m - 1, by omega⟩
       refine Did.of_ans (s := Builtin.clear_ c.argTypes ty (c.args.map a.eval)) (hex _ fun _ => rfl) ?_
       rw [e1, show c.argTypes = #[t] from by apply Array.ext'; simpa using hty]
       exact qLl hC h e2 hrow hst hz hk2 hM
      ·cases hs
     ·cases hs
    ·cases hs
   ·cases hs
  ·cases hs
theorem qDn {t : TypeId} {n : Nat} {parts : Array (Nat × Operand)} {dst : Option Tmp} {ty : TypeId} {pos : String} {af : Array Edge} {gd : Option (Nat × Bool)} {st' : St} {v : SV}
  (h : Ans P φ (Instr.buildSlice t n (parts.map fun (i, x) => (i, a.eval x))) a w st' v) : Did P φ { dst := dst, op := .buildSlice t n parts, type := ty, pos := pos, after := af, guard := gd } a w st' v := by
 have he : execOp a.eval { dst := dst, op := .buildSlice t n parts, type := ty, pos := pos, after := af, guard := gd } = (do pure (.value (<- Instr.buildSlice t n (parts.map fun (i, x) => (i, a.eval x))))) := by
  simp only [execOp]
 exact Did.of_ans he h
set_option maxHeartbeats 1000000 in
theorem qMq (hC : jK P C) (h : Rep φ ρ st a w) {o : Oper} {r : R1} (hs : jY C st o = some r) (hg : r.g = true) : Did P φ o a w r.st r.v := by
 obtain ⟨dst, op, ty, pos, af, gd⟩ := o
 cases op with
 | move x => exact qJs (C := C) h rfl hs
 | assign x => exact qJs (C := C) h rfl hs
 | pick c x y => exact qMB h hs hg
 | binOp op xt x y t' =>
  simp only [jY] at hs
  split at hs
  ·rename_i p q hx hy
   split at hs
   ·rename_i he
    split at hs
    ·rename_i g v hv
     simp only [Option.some.injEq] at hs; subst hs
     simp only at hg; subst hg
     exact Did.sees h rfl (qEG.of0 (qFT hC (qW h hx) (qW h hy) he hv))
    ·cases hs
   ·cases hs
  ·rename_i xs ys hx hy
   split at hs
   ·rename_i i hi
    split at hs
    ·rename_i b hb
     obtain ⟨r1, r2⟩ := qDL hC hi hb (qW h hx) (qW h hy) (ox := x) (oy := y) w
     split at hs
     ·simp only [ok1, Option.some.injEq] at hs; subst hs
      exact Did.sees h rfl (qEG.of0 (c := .bool b) ⟨_, r1, rfl⟩)
     ·simp only [ok1, Option.some.injEq] at hs; subst hs
      exact Did.sees h rfl (qEG.of0 (c := .bool (!b)) ⟨_, r2, rfl⟩)
     ·cases hs
    ·cases hs
   ·cases hs
  ·cases hs
 | unOp op t x =>
  simp only [jY] at hs
  split at hs
  ·rename_i p hx
   split at hs
   ·rename_i v hv
    simp only [ok1, Option.some.injEq] at hs; subst hs
    exact Did.sees h rfl (qEG.of0 (qGZ (qW h hx) hv))
   ·cases hs
  ·cases hs
 | convert s t x =>
  simp only [jY] at hs
  split at hs
  ·rename_i p hx
   exact Did.of_ans rfl (qMX hC h (qW h hx) hs hg)
  ·cases hs
 | nilCheck x =>
  simp only [jY] at hs
  have fin : ∀ {p : CV}, opv st x = some (.c p) -> ((∃ b o, p = .pbox b o) \/ (∃ d i o, p = .pelt d i o) \/ (∃ e t x o, p = .pdat e t x o) \/ ∃ d i o j o2, p = .pn d i o j o2) -> r = ⟨true, .c p, st⟩ -> Did P φ { dst := dst, op := .nilCheck x, type := ty, pos := pos, after := af, guard := gd } a w r.st r.v := by
   rintro p hx hp rfl
   obtain ⟨b, o, e⟩ := qJi (qW h hx) hp
   refine Did.val h (x := a.eval x) ?_ (qW h hx)
   simp only [execOp, e]
  split at hs
  ·rename_i b o' hx; simp only [ok1, Option.some.injEq] at hs; exact fin hx (.inl ⟨_, _, rfl⟩) hs.symm
  ·rename_i d i o' hx; simp only [ok1, Option.some.injEq] at hs; exact fin hx (.inr (.inl ⟨_, _, _, rfl⟩)) hs.symm
  ·rename_i e t y o' hx; simp only [ok1, Option.some.injEq] at hs; exact fin hx (.inr (.inr (.inl ⟨_, _, _, _, rfl⟩))) hs.symm
  ·rename_i d i o' j o2 hx; simp only [ok1, Option.some.injEq] at hs; exact fin hx (.inr (.inr (.inr ⟨_, _, _, _, _, rfl⟩))) hs.symm
  ·cases hs
 | fieldAddr t x f =>
  simp only [jY] at hs
  split at hs
  ·rename_i i hi
   split at hs
   ·rename_i off ft hf
    split at hs
    ·cases hs
    ·rename_i g hne hsz
     have fin : ∀ {p q : CV}, opv st x = some (.c p) -> (∀ u, CVR ρ w p u -> ∃ b o, u = .pointer (some ⟨b, o, none⟩) /\ zQ ρ w q (.pointer (some ⟨b, o + off, none⟩))) -> r = ⟨true, .c q, st⟩ -> Did P φ { dst := dst, op := .fieldAddr t x f, type := ty, pos := pos, after := af, guard := gd } a w r.st r.v := by
      rintro p q hx hp rfl
      obtain ⟨b, o, e, hq⟩ := hp _ (qW h hx)
      refine Did.sees (s := Instr.fieldAt t (a.eval x) f) h rfl (qEG.of0 ⟨_, ?_, hq⟩)
      rw [e]
      exact qCF hC hi hf (g := g.1) (n := g.2) hsz (fun h0 => hne g.1 (by rw [<- h0])) b o
     split at hs
     ·rename_i b o' hx; simp only [ok1, Option.some.injEq] at hs
      exact fin (q := .pbox b (o' + off)) hx (fun u hu => ⟨ρ.blk b, o', hu, rfl⟩) hs.symm
     ·rename_i d i o' hx; simp only [ok1, Option.some.injEq] at hs
      exact fin hx (fun u hu => by
       obtain ⟨b, n, c, e1, e2, e3⟩ := (hu : zQ ρ w (.pelt d i o') u)
       exact ⟨b, _, e3, b, n, c, e1, e2, by rw [Nat.add_assoc]⟩) hs.symm
     ·rename_i e t y o' hx; simp only [ok1, Option.some.injEq] at hs
      exact fin hx (fun u hu => by
       obtain ⟨b, o, cs, e1, e2⟩ := (hu : zQ ρ w (.pdat e t y o') u)
       exact ⟨b, _, e1, b, o, cs, by rw [Nat.add_assoc], e2⟩) hs.symm
     ·rename_i d i o' j o2 hx; simp only [ok1, Option.some.injEq] at hs
      exact fin hx (fun u hu => by
       obtain ⟨ho, b, n, c, e, u', b', n', c', e1, e2, e3, e4, e5, e6⟩ := (hu : zQ ρ w (.pn d i o' j o2) u)
       exact ⟨b', _, e6, ho, b, n, c, e, u', b', n', c', e1, e2, e3, e4, e5, by rw [Nat.add_assoc]⟩) hs.symm
     ·cases hs
    ·cases hs
   ·cases hs
  ·cases hs
 | field t x f =>
  simp only [jY] at hs
  split at hs
  ·rename_i i hi
   split at hs
   ·rename_i off ft hf
    split at hs
    ·rename_i cs g n hx hsz
     cases hv : mkV C ft (qEV off n cs) with
     | none => simp [hv] at hs
     | some v =>
      simp only [hv, Option.bind_some, ok1, Option.some.injEq] at hs; subst hs
      have T := hC.ti t i hi
      obtain ⟨fs, hu⟩ := T.strct (by intro hh; rw [hh] at hf; simp at hf)
      obtain ⟨_, hfs⟩ := T.flds fs hu
      obtain ⟨fd, h1, h2, h3, _⟩ := hfs f off ft hf
      obtain ⟨arr, e, ha⟩ := (qW h hx : SVR ρ w (.agg cs) _)
      refine Did.sees (s := Instr.field t (a.eval x) f) h rfl ?_
      obtain ⟨z, hz1, hz2⟩ := qMC hC hsz ha hv
      refine ⟨z, ?_, hz2⟩
      unfold Instr.field
      rw [Sem.run_bind, run_underlying hu, Result.andThen_ok]
      simp only [h1, e, asAgg, Sem.run_bind, Sem.run_pure, Result.andThen_ok, h2, h3]
      exact hz1
    ·cases hs
   ·cases hs
  ·cases hs
 | extract x i =>
  simp only [jY] at hs
  split at hs
  ·rename_i vs hx
   cases hv : vs[i]? with
   | none => simp [hv] at hs
   | some v =>
    simp only [hv, Option.bind_some, ok1, Option.some.injEq] at hs; subst hs
    exact Did.sees h rfl (qIr (qW h hx) hv)
  ·cases hs
 | build t parts =>
  simp only [jY] at hs
  split at hs
  ·rename_i i hi
   split at hs
   ·cases hs
   ·rename_i hne
    split at hs
    ·rename_i cs hf
     split at hs
     ·simp only [ok1, Option.some.injEq] at hs; subst hs
      exact Did.of_ans (s := Instr.build t (parts.map fun (i, x) => (i, a.eval x))) rfl (qLn hC h hi (by
       intro hh; simp [hh] at hne) hf)
     ·cases hs
    ·cases hs
  ·cases hs
 | range t x =>
  simp only [jY] at hs
  split at hs
  ·rename_i i l hi hx
   split at hs
   ·rename_i hty
    simp only [ok1, Option.some.injEq] at hs; subst hs
    have e1 : a.eval x = .string ⟨⟨l⟩⟩ := qW h hx
    exact Did.of_ans rfl (qIh h (by rw [e1]; exact run_range_string w t ⟨⟨l⟩⟩ ((hC.ti t i hi).tyStr hty)))
   ·cases hs
  ·cases hs
 | box t x =>
  simp only [jY] at hs
  split at hs
  ·rename_i v g n hv hsz
   split at hs
   ·rename_i cs hcs
    split at hs
    ·simp only [ok1, Option.some.injEq] at hs; subst hs
     exact Did.of_ans (s := Instr.box t (a.eval x)) rfl (qNX h (qAD h hv) hcs)
    ·cases hs
   ·cases hs
  ·cases hs
 | alloc t =>
  simp only [jY] at hs
  split at hs
  ·rename_i i hi
   simp only [ok1, Option.some.injEq] at hs; subst hs
   exact Did.of_ans (s := Instr.alloc t true (.tuple #[])) rfl (qLs hC h hi)
  ·cases hs
 | buildSlice t n parts =>
  simp only [jY] at hs
  split at hs
  ·rename_i e ei u ht
   split at hs
   ·rename_i cs hf
    split at hs
    ·rename_i cs' m st' hk
     split at hs
     ·rename_i l hl
      split at hs
      ·rename_i hh
       simp only [ok1, Option.some.injEq] at hs; subst hs
       have key := qEw hC h ht hf hk hl hh.1 hh.2 (d := 32 * dst.getD 0)
       exact qDn key
      ·cases hs
     ·cases hs
    ·cases hs
   ·cases hs
  ·cases hs
 | makeSlice t x y =>
  simp only [jY] at hs
  split at hs
  ·rename_i e ei u k n k' n' ht hx hy
   split at hs
   ·cases hs
   ·rename_i z hz
    split at hs
    ·rename_i hsz
     simp only [Option.some.injEq] at hs; subst hs
     simp only [Bool.and_eq_true, decide_eq_true_eq] at hg
     obtain ⟨⟨g1, g2⟩, rfl⟩ := hg
     have ex : a.eval x = .int k n' := qW h hx
     have ey : a.eval y = .int k' n' := qW h hy
     have key := qFk hC h ht hz hsz (k := k) (k' := k') g1 g2 (d := 32 * dst.getD 0)
     rw [<- ex, <- ey] at key
     exact Did.of_ans (s := Instr.makeSlice t (a.eval x) (a.eval y)) rfl key
    ·cases hs
  ·cases hs
 | load t x =>
  simp only [jY] at hs
  split at hs
  ·rename_i p hx
   split at hs
   ·rename_i q hq
    exact Did.of_ans (s := Instr.loadAt t (a.eval x)) rfl (qHl hC h (qW h hx) hq hs hg).1
   cases hv : qCa C st t p with
   | none => simp [hv] at hs
   | some v =>
    simp only [hv, Option.bind_some, ok1, Option.some.injEq] at hs; subst hs
    exact Did.of_ans (s := Instr.loadAt t (a.eval x)) rfl (qK5 hC h (qW h hx) hv)
  ·cases hs
 | indexAddr t x i =>
  simp only [jY] at hs
  split at hs
  ·rename_i p k n hx hi
   split at hs
   ·cases hs
   ·rename_i hk
    split at hs
    ·rename_i g q hq
     simp only [Option.some.injEq] at hs; subst hs
     simp only at hg; subst hg
     have ei : a.eval i = .int k n := qW h hi
     refine Did.sees (s := Instr.indexAt t (a.eval x) (a.eval i)) h rfl (qEG.of0 ?_)
     rw [ei]
     exact qMJ hC h (qW h hx) (by simpa using hk) hq
    ·cases hs
  ·cases hs
 | index t x i =>
  simp only [jY] at hs
  split at hs
  ·rename_i s k n hx hi
   split at hs
   ·cases hs
   ·rename_i hk
    simp only [Option.some.injEq] at hs; subst hs
    simp only [Bool.and_eq_true, decide_eq_true_eq] at hg
    have ex : a.eval x = .string ⟨⟨s⟩⟩ := qW h hx
    have ei : a.eval i = .int k n := qW h hi
    have hn : n.toNat < s.length := by omega
    refine Did.sees (s := Instr.index t (a.eval x) (a.eval i)) h rfl (qEG.of0 ⟨.int .u8 ((s.getD n.toNat 0).toNat : Int), ?_, rfl⟩)
    rw [ex, ei]
    have h1 : (ByteArray.mk ⟨s⟩)[n.toNat]? = some s[n.toNat] := by
     have : n.toNat < (ByteArray.mk ⟨s⟩).size := hn
     rw [getElem?_pos (ByteArray.mk ⟨s⟩) n.toNat this]
     rfl
    simp [Instr.index, asIntOf, run_underlying (qBb hC (by simpa using hk)), hg.1, h1, List.getD, hn]
  ·cases hs
 | slice t x lo hi mx =>
  simp only [jY] at hs
  split at hs
  ·rename_i p l' h' m' hx hl hh hm
   split at hs
   ·cases hs
   ·rename_i hk
    split at hs
    ·rename_i g e t' hq
     simp only [Option.some.injEq] at hs; subst hs
     simp only at hg; subst hg
     obtain ⟨z, h1, A, rfl⟩ := qE5 hC h (qW h hx) (by simpa using hk) hl hh hm hq
     obtain ⟨ρ', h2, h3, _⟩ := qCZ h (d := 32 * dst.getD 0) (e := e) (t := t') (A := A)
     exact Did.of_ans (s := Instr.sliceAt t (a.eval x) (lo.map a.eval) (hi.map a.eval) (mx.map a.eval)) rfl ⟨ρ', _, w, h1, h2, h3⟩
    ·rename_i g v _ hq
     simp only [Option.some.injEq] at hs; subst hs
     simp only at hg; subst hg
     exact Did.sees (s := Instr.sliceAt t (a.eval x) (lo.map a.eval) (hi.map a.eval) (mx.map a.eval)) h rfl (qEG.of0 (qE5 hC h (qW h hx) (by simpa using hk) hl hh hm hq))
    ·cases hs
  ·cases hs
 | makeFunc f first caps =>
  simp only [jY] at hs
  split at hs
  ·rename_i g vs us h1 h2
   split at hs
   ·rename_i sh cs hsh
    split at hs
    ·cases hs
    ·rename_i hnf
     simp only [ok1, Option.some.injEq] at hs; subst hs
     have e1 := qGg h h1
     have e2 := qGg h h2
     have e3 := e1.append e2
     obtain ⟨s1, s2⟩ := qBv hsh e3 (fun c hc f sh n ds hh => by
      subst hh
      apply hnf
      simp only [List.any_eq_true]
      exact ⟨_, hc, rfl⟩)
     refine Did.val h (x := .func (.func g) (first.map a.eval) (caps.map a.eval)) rfl ⟨_, _, rfl, ?_, ?_⟩
     ·have := e1.length
      simpa using this.symm
     ·simpa using s1
   ·cases hs
  ·cases hs
 | store t x y =>
  simp only [jY] at hs
  split at hs
  ·rename_i b off e u g hx hv hsz
   obtain ⟨A, hA⟩ := (qAD h hv : zQ ρ w (.emp e u) _)
   obtain ⟨ρ', h1, h2, hm⟩ := qCZ h (d := qS b + off) (e := e) (t := u) (A := A)
   rw [<- hA] at h2
   have hp : CVR ρ' w (.pbox b off) (a.eval x) := jP (hm _ rfl) (qW h hx)
   obtain ⟨e1, e2⟩ := qEX hC h1 hsz hp h2 (by decide) rfl hs hg
   rw [e1]
   exact e2.did rfl
  ·rename_i p v g n _ hx hv hsz
   split at hs
   ·rename_i hn
    obtain ⟨e1, e2⟩ := qEX hC h hsz (qW h hx) (qAD h hv) hn.1 hn.2 hs hg
    rw [e1]
    exact e2.did rfl
   ·cases hs
  ·cases hs
 | call c =>
  simp only [jY] at hs
  split at hs
  ·rename_i b hb
   split at hs
   ·rename_i vs hvs
    exact qKg hC h hb hvs hs hg
   ·cases hs
  ·cases hs
 | makeMap t rv =>
  cases rv with
  | some x => simp [jY] at hs
  | none =>
  simp only [jY] at hs
  split at hs
  ·rename_i k v vt vi ht
   simp only [ok1, Option.some.injEq] at hs; subst hs
   exact Did.of_ans (s := Instr.makeMap t none) rfl (qIk h)
  ·cases hs
 | lookup t x y ok =>
  simp only [jY] at hs
  split at hs
  ·rename_i k v vt vi d kc ht hx hy
   split at hs
   ·rename_i r hr
    split at hs
    ·rename_i hm
     split at hs
     ·rename_i c b hg1
      simp only [ok1, Option.some.injEq] at hs; subst hs
      exact Did.of_ans (s := Instr.lookup t (a.eval x) (a.eval y) ok) rfl (qJz hC h ht (qW h hx) (qW h hy) hr hm.1 hm.2 hg1)
     ·cases hs
    ·cases hs
   ·cases hs
  ·cases hs
 | mapUpdate t m x y =>
  simp only [jY] at hs
  split at hs
  ·rename_i k v vt vi d kc vc ht hm0 hx hy
   split at hs
   ·rename_i r hr
    split at hs
    ·rename_i hm
     split at hs
     ·rename_i l hg1
      simp only [ok1, Option.some.injEq] at hs; subst hs
      obtain ⟨w', e1, e2⟩ := qBU hC h ht (qW h hm0) (qW h hx) (qW h hy) hr hm.1 hm.2 hg1
      exact Did.of_unit (s := Instr.mapUpdate t (a.eval m) (a.eval x) (a.eval y)) rfl e1 e2 rfl
     ·cases hs
    ·cases hs
   ·cases hs
  ·cases hs
 | insert t m x y =>
  simp only [jY] at hs
  split at hs
  ·rename_i k v vt vi d kc vc ht hm0 hx hy
   split at hs
   ·rename_i r hr
    split at hs
    ·rename_i hm
     split at hs
     ·rename_i l hg1
      simp only [ok1, Option.some.injEq] at hs; subst hs
      obtain ⟨w', e1, e2⟩ := qBU hC h ht (qW h hm0) (qW h hx) (qW h hy) hr hm.1 hm.2 hg1
      exact Did.of_unit (s := Instr.mapUpdate t (a.eval m) (a.eval x) (a.eval y)) rfl e1 e2 rfl
     ·cases hs
    ·cases hs
   ·cases hs
  ·cases hs
 | _ => simp [jY] at hs
end
def qF (P : Program) {α : Type} (s : Sem α) : Prop := ∀ w w1 v, s.run P w = .ok v w1 -> w1 = w /\ ∀ w', s.run P w' = .ok v w'
def kA (P : Program) {α : Type} (s : Sem α) : Prop := ∀ w w1 v, s.run P w = .ok v w1 -> w1 = w
section
variable {P : Program}
theorem xH {α β : Type} {r : Result α} {f : α -> World -> Result β} {v : β} {w1 : World} (h : r.andThen f = .ok v w1) : ∃ x w2, r = .ok x w2 /\ f x w2 = .ok v w1 := by
 cases r with
 | ok x w2 => exact ⟨x, w2, rfl, h⟩
 | halt x w2 => simp [Result.andThen] at h
theorem qF.bind {α β : Type} {s : Sem α} {f : α -> Sem β} (h : qF P s) (hf : ∀ x, qF P (f x)) : qF P (s >>= f) := by
 intro w w1 v hr
 rw [Sem.run_bind] at hr
 obtain ⟨x, w2, h1, h2⟩ := xH hr
 obtain ⟨rfl, h3⟩ := h w w2 x h1
 obtain ⟨rfl, h4⟩ := hf x _ _ v h2
 exact ⟨rfl, fun w' => by rw [Sem.run_bind, h3 w']; exact h4 w'⟩
theorem qF.bindOk {α β : Type} {s : Sem α} {f : α -> Sem β} {x : α} (h : ∀ w, s.run P w = .ok x w) (hf : qF P (f x)) : qF P (s >>= f) := by
 intro w w1 v hr
 rw [Sem.run_bind, h w] at hr
 obtain ⟨rfl, h4⟩ := hf _ _ v hr
 exact ⟨rfl, fun w' => by rw [Sem.run_bind, h w']; exact h4 w'⟩
theorem qF.ok {α : Type} {s : Sem α} {x : α} (h : ∀ w, s.run P w = .ok x w) : qF P s := by
 intro w w1 v hr
 rw [h w] at hr
 simp only [Result.ok.injEq] at hr
 obtain ⟨rfl, rfl⟩ := hr
 exact ⟨rfl, h⟩
theorem qF.pure {α : Type} (a : α) : qF P (Pure.pure a : Sem α) := qF.ok fun _ => rfl
theorem qF.spure {α : Type} (a : α) : qF P (Sem.pure a : Sem α) := qF.ok fun _ => rfl
theorem qF.halt {α : Type} (x : Halt) : qF P (Sem.halt x : Sem α) := by intro w w1 v h; simp [Sem.run] at h
theorem qF.stuck {α : Type} (s : String) : qF P (Go.stuck s : Sem α) := qF.halt _
theorem qF.unsupported {α : Type} (u : Unsupported) : qF P (Go.unsupported u : Sem α) := qF.halt _
theorem qF.program : qF P Go.program := qF.ok (x := P) fun _ => rfl
theorem kA.bind {α β : Type} {s : Sem α} {f : α -> Sem β} (h : kA P s) (hf : ∀ x, kA P (f x)) : kA P (s >>= f) := by
 intro w w1 v hr
 rw [Sem.run_bind] at hr
 obtain ⟨x, w2, h1, h2⟩ := xH hr
 obtain rfl := h w w2 x h1
 exact hf x _ _ v h2
theorem qF.still {α : Type} {s : Sem α} (h : qF P s) : kA P s := fun w w1 v hr => (h w w1 v hr).1
theorem kA.load (a : Addr) : kA P (Go.load a) := by
 intro w w1 v h
 rw [run_load] at h
 split at h
 ·simp only [Result.ok.injEq] at h; exact h.2.symm
 ·split at h
  ·simp only [Result.ok.injEq] at h; exact h.2.symm
  ·cases h
def qAs (P : Program) {α : Type} (s : Sem α) : Prop := ∀ w w1 v, s.run P w ≠ .ok v w1
theorem qAs.blind {α : Type} {s : Sem α} (h : qAs P s) : qF P s := fun w w1 v hr => absurd hr (h w w1 v)
theorem qAs.bind2 {α β : Type} {s : Sem α} {f : α -> Sem β} (hf : ∀ x, qAs P (f x)) : qAs P (s >>= f) := by
 intro w w1 v hr
 rw [Sem.run_bind] at hr
 obtain ⟨x, w2, h1, h2⟩ := xH hr
 exact hf x w2 w1 v h2
theorem qAs.halt {α : Type} (x : Halt) : qAs P (Sem.halt x : Sem α) := by intro w w1 v h; simp [Sem.run] at h
theorem qZ {α : Type} (e : RuntimeError) : qAs P (runtimePanic e : Sem α) := by
 unfold runtimePanic
 refine qAs.bind2 fun p => ?_
 cases e <;> first | exact qAs.halt _ | exact qAs.bind2 fun _ => qAs.bind2 fun _ => qAs.halt _
theorem zE {α : Type} (k : IntKind) (x y : Int) (c : BoundsCode) : qAs P (boundsPanic k x y c : Sem α) := by
 unfold boundsPanic
 dsimp only
 split
 ·exact qAs.bind2 fun s => qZ _
 ·exact qAs.bind2 fun s => qZ _
theorem jL (t : TypeId) : qF P (underlying t) := by
 unfold underlying
 refine qF.bind qF.program fun p => ?_
 split
 ·exact qF.pure _
 ·exact qF.stuck _
theorem qAy (t : TypeId) : qF P (typeInfo t) := by
 unfold typeInfo
 refine qF.bind qF.program fun p => ?_
 split
 ·exact qF.pure _
 ·exact qF.stuck _
theorem zC (t : TypeId) : qF P (sizeOf t) := by
 unfold sizeOf
 exact qF.bind (qAy t) fun i => qF.pure _
theorem qC7 (t : TypeId) : qF P (isAgg t) := by
 unfold isAgg
 refine qF.bind (jL t) fun i => ?_
 split <;> exact qF.pure _
theorem qC6 (t : TypeId) : qF P (zeroValue t) := by
 unfold zeroValue
 refine qF.bind (qAy t) fun i => ?_
 split
 ·exact qF.pure _
 ·exact qF.unsupported _
theorem qFR (v : Value) : qF P (asBool v) := by
 cases v <;> first | exact qF.pure _ | exact qF.stuck _
theorem vI (v : Value) : qF P (asIntOf v) := by
 unfold asIntOf
 split <;> first | exact qF.pure _ | exact qF.stuck _ | exact qF.unsupported _
theorem vQ (v : Value) : qF P (asAgg v) := by
 cases v <;> first | exact qF.pure _ | exact qF.stuck _
theorem zR (v : Value) : qF P (Instr.sureAddr v) := by
 unfold Instr.sureAddr
 split <;> first | exact qF.pure _ | exact qF.stuck _
theorem vT (v : Value) : qF P (asAddr v) := by
 unfold asAddr
 split <;> first | exact qF.pure _ | exact qF.stuck _ | exact (qZ _).blind
theorem wF (t : TypeId) (cs : Array Value) (off : Nat) : qF P (part t cs off) := by
 unfold part
 refine qF.bind (qC7 t) fun b => ?_
 split
 ·exact qF.bind (zC t) fun _ => qF.pure _
 ·split
  ·exact qF.pure _
  ·exact qF.stuck _
theorem qGG (t : TypeId) (x : Value) (f : Nat) : qF P (Instr.field t x f) := by
 unfold Instr.field
 refine qF.bind (jL t) fun d => ?_
 split
 ·split
  ·exact qF.bind (vQ x) fun _ => wF _ _ _
  ·exact qF.stuck _
 ·exact qF.stuck _
theorem qEz (x : Value) (i : Nat) : qF P (Instr.extract x i) := by
 unfold Instr.extract
 split
 ·split
  ·exact qF.pure _
  ·exact qF.stuck _
 ·exact qF.stuck _
theorem qGF (t : TypeId) (x i : Value) : qF P (Instr.index t x i) := by
 unfold Instr.index
 repeat' first
  | exact qF.pure _ | exact qF.stuck _ | exact qF.unsupported _ | exact (zE _ _ _ _).blind | exact (qZ _).blind
  | exact jL _ | exact zC _ | exact wF _ _ _ | exact vI _ | exact zR _ | exact vT _ | exact vQ _
  | refine qF.bind ?_ fun _ => ?_ | split | dsimp only
theorem qEy (t : TypeId) (x i : Value) : qF P (Instr.indexAt t x i) := by
 unfold Instr.indexAt
 repeat' first
  | exact qF.pure _ | exact qF.stuck _ | exact qF.unsupported _ | exact (zE _ _ _ _).blind | exact (qZ _).blind
  | exact jL _ | exact zC _ | exact wF _ _ _ | exact vI _ | exact zR _ | exact vT _ | exact vQ _
  | refine qF.bind ?_ fun _ => ?_ | split | dsimp only
theorem qCd (x : Value) (y : Nat) (c : BoundsCode) : qF P (Instr.sliceBound x y c) := by
 unfold Instr.sliceBound
 repeat' first
  | exact qF.pure _ | exact qF.stuck _ | exact qF.unsupported _ | exact (zE _ _ _ _).blind | exact (qZ _).blind
  | exact jL _ | exact zC _ | exact wF _ _ _ | exact vI _ | exact zR _ | exact vT _ | exact vQ _
  | refine qF.bind ?_ fun _ => ?_ | split | dsimp only
theorem yU (b : Bool) (len cap : Nat) (lo hi mx : Option Value) : qF P (Instr.sliceBounds b len cap lo hi mx) := by
 unfold Instr.sliceBounds
 repeat' first
  | exact qF.pure _ | exact qF.stuck _ | exact qF.unsupported _ | exact (zE _ _ _ _).blind | exact (qZ _).blind
  | exact jL _ | exact zC _ | exact wF _ _ _ | exact vI _ | exact zR _ | exact vT _ | exact vQ _ | exact qCd _ _ _
  | refine qF.bind ?_ fun _ => ?_ | split | dsimp only
theorem qGE (t : TypeId) (x : Value) (lo hi mx : Option Value) : qF P (Instr.slice t x lo hi mx) := by
 unfold Instr.slice
 repeat' first
  | exact qF.pure _ | exact qF.stuck _ | exact qF.unsupported _ | exact (zE _ _ _ _).blind | exact (qZ _).blind
  | exact jL _ | exact zC _ | exact wF _ _ _ | exact vI _ | exact zR _ | exact vT _ | exact vQ _ | exact yU _ _ _ _ _ _
  | refine qF.bind ?_ fun _ => ?_ | split | dsimp only
theorem qEx (t : TypeId) (x : Value) (lo hi mx : Option Value) : qF P (Instr.sliceAt t x lo hi mx) := by
 unfold Instr.sliceAt
 repeat' first
  | exact qF.pure _ | exact qF.stuck _ | exact qF.unsupported _ | exact (zE _ _ _ _).blind | exact (qZ _).blind
  | exact jL _ | exact zC _ | exact wF _ _ _ | exact vI _ | exact zR _ | exact vT _ | exact vQ _ | exact yU _ _ _ _ _ _ | exact qGE _ _ _ _ _
  | refine qF.bind ?_ fun _ => ?_ | split | dsimp only
theorem kL (a : Addr) : ∀ (n i : Nat) (acc : Array Value), kA P (loadCellsFrom a i n acc)
 | 0, i, acc => (qF.pure acc).still
 | n + 1, i, acc => by
  unfold loadCellsFrom
  exact kA.bind (kA.load _) fun v => kL a n _ _
theorem xR (a : Addr) (n : Nat) : kA P (loadCells a n) := kL a n 0 _
theorem qD3 (t : TypeId) (a : Addr) : kA P (loadVar t a) := by
 unfold loadVar
 refine kA.bind (qC7 t).still fun b => ?_
 split
 ·exact kA.bind (zC t).still fun n => kA.bind (xR _ _) fun _ => (qF.pure _).still
 ·exact kA.load _
theorem qE0 (t : TypeId) (x : Value) : kA P (Instr.loadAt t x) := kA.bind (zR x).still fun a => qD3 t a
end
section
variable {φ : Fix} {ρ : Env} {st : St} {a : Act} {w : World} {P : Program} {C : Ctx}
def CV.scalar : CV -> Option Value
 | .int k n => some (.int k n)
 | .bool b => some (.bool b)
 | .str s => some (.string ⟨⟨s⟩⟩)
 | _ => none
theorem qAY {c : CV} {v : Value} (h : c.scalar = some v) : CVR ρ w c v := by
 cases c <;> simp only [CV.scalar, Option.some.injEq, reduceCtorEq] at h
 all_goals exact h.symm
theorem xT {c : CV} {v z : Value} (h : c.scalar = some v) (hc : CVR ρ w c z) : z = v := by
 cases c <;> simp only [CV.scalar, Option.some.injEq, reduceCtorEq] at h
 all_goals exact (show z = _ from hc).trans h
theorem qF.scalar {s : Sem Value} {r : CV} {v : Value} (hr : r.scalar = some v) (h : ∀ w, ∃ z, s.run P w = .ok z w /\ CVR ρ w r z) : qF P s :=
 qF.ok (x := v) fun w => by obtain ⟨z, h1, h2⟩ := h w; rw [h1, xT hr h2]
theorem qEC {op : BinOp} {x y r : CV} {g : Bool} (h : qFU op x y = some (g, r)) : x.scalar.isSome = true /\ y.scalar.isSome = true /\ r.scalar.isSome = true := by
 unfold qFU at h
 split at h
 ·refine ⟨rfl, rfl, ?_⟩
  unfold qCn qHS at h
  repeat' split at h
  all_goals first
   | (simp only [Option.some.injEq, Prod.mk.injEq, reduceCtorEq] at h; done)
   | (simp only [Option.some.injEq, Prod.mk.injEq] at h; obtain ⟨_, rfl⟩ := h; rfl)
 ·refine ⟨rfl, rfl, ?_⟩
  split at h
  all_goals first
   | (simp only [Option.some.injEq, Prod.mk.injEq, reduceCtorEq] at h; done)
   | (simp only [Option.some.injEq, Prod.mk.injEq] at h; obtain ⟨_, rfl⟩ := h; rfl)
 ·refine ⟨rfl, rfl, ?_⟩
  unfold qHR at h
  split at h
  all_goals first
   | (simp only [Option.some.injEq, Prod.mk.injEq, reduceCtorEq] at h; done)
   | (simp only [Option.some.injEq, Prod.mk.injEq] at h; obtain ⟨_, rfl⟩ := h; rfl)
 ·cases h
theorem qET {op : UnOp} {x r : CV} (h : qIP op x = some r) : x.scalar.isSome = true /\ r.scalar.isSome = true := by
 unfold qIP at h
 split at h
 ·refine ⟨rfl, ?_⟩
  split at h
  all_goals first
   | (simp only [Option.some.injEq, reduceCtorEq] at h; done)
   | (simp only [Option.some.injEq] at h; subst h; rfl)
 ·refine ⟨rfl, ?_⟩
  split at h
  all_goals first
   | (simp only [Option.some.injEq, reduceCtorEq] at h; done)
   | (simp only [Option.some.injEq] at h; subst h; rfl)
 ·cases h
theorem xC {m : Bool} : ∀ {xs : List CV} {x r : CV}, kC m x xs = some r -> xs ≠ [] -> (∀ y, y ∈ x :: xs -> y.scalar.isSome = true) /\ r.scalar.isSome = true
 | [], x, r, h, hn => absurd rfl hn
 | y :: ys, x, r, h, _ => by
  unfold kC at h
  cases x with
  | int k n =>
   cases y with
   | int k' n' =>
    simp only at h
    split at h
    ·cases ys with
     | nil =>
      simp only [kC, Option.some.injEq] at h
      subst h
      refine ⟨fun y hy => ?_, rfl⟩
      rcases List.mem_cons.1 hy with rfl | hy
      ·rfl
      ·rcases List.mem_cons.1 hy with rfl | hy
       ·rfl
       ·cases hy
     | cons z zs =>
      obtain ⟨h1, h2⟩ := xC h (by simp)
      refine ⟨fun y hy => ?_, h2⟩
      rcases List.mem_cons.1 hy with rfl | hy
      ·rfl
      ·rcases List.mem_cons.1 hy with rfl | hy
       ·rfl
       ·exact h1 y (List.mem_cons_of_mem _ hy)
    ·cases h
   | _ => simp at h
  | _ => simp at h
theorem qBx : ∀ {xs : List CV} {vs : List Value}, jC (CVR ρ w) xs vs -> (∀ y, y ∈ xs -> y.scalar.isSome = true) -> ∀ ρ' w', jC (CVR ρ' w') xs vs
 | [], [], _, _, _, _ => trivial
 | x :: xs, v :: vs, h, hs, ρ', w' => by
  obtain ⟨u, hu⟩ := Option.isSome_iff_exists.1 (hs x List.mem_cons_self)
  exact ⟨by rw [xT hu h.1]; exact qAY hu, qBx h.2 (fun y hy => hs y (List.mem_cons_of_mem _ hy)) ρ' w'⟩
theorem qAz {α β : Type} {f : α -> Sem β} (hf : ∀ x, qF P (f x)) : ∀ l : List α, qF P (l.mapM f)
 | [] => qF.pure _
 | x :: l => by
  rw [List.mapM_cons]
  exact qF.bind (hf x) fun _ => qF.bind (qAz hf l) fun _ => qF.pure _
theorem qKh {α β : Type} {f : α -> β} {s : Sem α} (h : qF P s) : qF P (f <$> s) := by
 rw [map_eq_pure_bind]
 exact h.bind fun _ => qF.pure _
theorem qEA {α β : Type} {f : α -> Sem β} (hf : ∀ x, qF P (f x)) (l : Array α) : qF P (l.mapM f) := by
 rw [Array.mapM_eq_mapM_toList]
 exact qKh (qAz hf _)
theorem qGH (t : TypeId) (ps : Array (Nat × Value)) : qF P (Instr.build t ps) := by
 unfold Instr.build
 refine qF.bind (qC6 t) fun z => qF.bind (jL t) fun d => ?_
 split
 ·refine qF.bind (qEA (fun f => qF.bind (zC _) fun _ => qF.pure _) _) fun places => ?_
  split
  ·exact qF.pure _
  ·exact qF.stuck _
 ·refine qF.bind (zC _) fun places => ?_
  split
  ·exact qF.pure _
  ·exact qF.stuck _
 ·exact qF.stuck _
theorem jJ {s : Sem Value} (h : qF P s) : qF P (do pure (Next.value (<- s))) := qF.bind h fun _ => qF.pure _
theorem qBg (hC : jK P C) {s t : TypeId} {i j : TI} (hj : C.ti s = some j) (hi : C.ti t = some i) {x : CV} {u : Value} (hx : CVR ρ w x u)
  (h : (∃ k n k', x = .int k n /\ i.sty = some (.int k')) \/ (∃ z, x = .str z /\ i.sty = some .str)) : qF P (convert s t u) := by
 obtain ⟨sd, hsd, _⟩ := (hC.ti s j hj).und
 have Ti := hC.ti t i hi
 rcases h with ⟨k, n, k', rfl, hty⟩ | ⟨z, rfl, hty⟩
 ·refine qF.ok (x := .int k' (k'.wrap n)) fun w => ?_
  rw [show u = .int k n from hx]
  simp [convert, run_underlying hsd, run_underlying (Ti.tyInt k' hty), Conv.intToInt]
 ·refine qF.ok (x := .string ⟨⟨z⟩⟩) fun w => ?_
  rw [show u = .string ⟨⟨z⟩⟩ from hx]
  simp [convert, run_underlying hsd, run_underlying (Ti.tyStr hty)]
theorem qAA (x : Value) : kA P (Conv.bytesToString x) := by
 unfold Conv.bytesToString
 split
 ·exact (qF.pure _).still
 ·rename_i a len c
  refine kA.bind (xR _ _) fun cs => ?_
  refine kA.bind ?_ fun s => (qF.pure _).still
  rw [<- Array.forIn_toList]
  generalize cs.toList = l
  generalize (ByteArray.empty : ByteArray) = s0
  induction l generalizing s0 with
  | nil => exact (qF.pure _).still
  | cons c l ih =>
   rw [List.forIn_cons]
   refine kA.bind ?_ fun q => ?_
   ·split
    ·exact (qF.pure _).still
    ·exact (qF.bind (qF.stuck _) fun _ => qF.pure _).still
   ·split
    ·exact (qF.pure _).still
    ·exact ih _
 ·exact (qF.stuck _).still
theorem qHP (hC : jK P C) (h : Rep φ ρ st a w) {o : Oper} {r : R1} (hs : jY C st o = some r) (hg : r.g = true) (hk : Oper.kd C o = .blind) : qF P (execOp a.eval o) := by
 obtain ⟨dst, op, ty, pos, af, gd⟩ := o
 cases op with
 | move x => exact qF.pure _
 | assign x => exact qF.pure _
 | pick c x y => exact qF.bind (qFR _) fun _ => qF.pure _
 | binOp op xt x y t' =>
  simp only [jY] at hs
  split at hs
  ·rename_i p q hx hy
   split at hs
   ·rename_i he
    split at hs
    ·rename_i g v hv
     simp only [Option.some.injEq] at hs; subst hs
     simp only at hg; subst hg
     obtain ⟨s1, s2, s3⟩ := qEC hv
     obtain ⟨u1, e1⟩ := Option.isSome_iff_exists.1 s1
     obtain ⟨u2, e2⟩ := Option.isSome_iff_exists.1 s2
     obtain ⟨u3, e3⟩ := Option.isSome_iff_exists.1 s3
     have f1 := xT e1 (qW h hx : CVR ρ w p _)
     have f2 := xT e2 (qW h hy : CVR ρ w q _)
     refine jJ (s := do eqGuard op xt x y (a.eval x) (a.eval y); binOp op xt (a.eval x) (a.eval y)) (qF.scalar (ρ := ρ) e3 fun w' => ?_)
     rw [f1, f2]
     obtain ⟨z, h1, h2⟩ := qFT hC (ρ := ρ) (w := w') (qAY e1) (qAY e2) he hv (ox := x) (oy := y)
     exact ⟨z, h1, zL h2⟩
    ·cases hs
   ·cases hs
  ·rename_i xs ys hx hy
   split at hs
   ·rename_i i hi
    split at hs
    ·rename_i b hb
     have key := fun w' => qDL hC hi hb (qW h hx) (qW h hy) (ox := x) (oy := y) w'
     split at hs
     ·exact jJ (s := do eqGuard .eql xt x y (a.eval x) (a.eval y); binOp .eql xt (a.eval x) (a.eval y)) (qF.ok (x := .bool b) fun w' => (key w').1)
     ·exact jJ (s := do eqGuard .neq xt x y (a.eval x) (a.eval y); binOp .neq xt (a.eval x) (a.eval y)) (qF.ok (x := .bool (!b)) fun w' => (key w').2)
     ·cases hs
    ·cases hs
   ·cases hs
  ·cases hs
 | unOp op t x =>
  simp only [jY] at hs
  split at hs
  ·rename_i p hx
   split at hs
   ·rename_i v hv
    obtain ⟨s1, s3⟩ := qET hv
    obtain ⟨u1, e1⟩ := Option.isSome_iff_exists.1 s1
    obtain ⟨u3, e3⟩ := Option.isSome_iff_exists.1 s3
    have f1 := xT e1 (qW h hx : CVR ρ w p _)
    refine jJ (s := Op.unary op (a.eval x)) (qF.scalar (ρ := ρ) e3 fun w' => ?_)
    rw [f1]
    obtain ⟨z, h1, h2⟩ := qGZ (ρ := ρ) (w := w') (P := P) (qAY e1) hv
    exact ⟨z, h1, zL h2⟩
   ·cases hs
  ·cases hs
 | convert s t x =>
  simp only [jY] at hs
  split at hs
  ·rename_i p hx
   unfold qKb at hs
   simp only [Oper.kd] at hk
   cases hj : C.ti s with
   | none => simp [hj] at hs
   | some j =>
    cases hi : C.ti t with
    | none => simp [hj, hi] at hs
    | some i =>
     simp only [hj, hi] at hs hk
     refine jJ (s := convert s t (a.eval x)) (qBg hC hj hi (qW h hx : CVR ρ w p _) ?_)
     split at hk
     ·rename_i k hty
      rw [hty] at hs
      split at hs
      ·rename_i k1 n1 k2 _; rename_i heq; simp only [Option.some.injEq, Ty.int.injEq] at heq; exact .inl ⟨_, _, _, rfl, hty⟩
      all_goals (rename_i heq; first | (cases heq; done) | (cases hs; done))
     ·rename_i hty hty2
      rw [hty] at hs
      split at hs
      ·rename_i heq; cases heq
      ·exact .inr ⟨_, rfl, hty⟩
      ·rename_i heq; cases heq
      ·rename_i heq; cases heq
      ·rw [hty2] at hs; simp at hs
      ·cases hs
     ·cases hk
     ·cases hk
  ·cases hs
 | nilCheck x =>
  simp only [jY] at hs
  have fin : ∀ {p : CV}, opv st x = some (.c p) -> ((∃ b o, p = .pbox b o) \/ (∃ d i o, p = .pelt d i o) \/ (∃ e t x o, p = .pdat e t x o) \/ ∃ d i o j o2, p = .pn d i o j o2) -> qF P (execOp a.eval { dst := dst, op := .nilCheck x, type := ty, pos := pos, after := af, guard := gd }) := by
   rintro p hx hp
   obtain ⟨b, o, e⟩ := qJi (qW h hx) hp
   simp only [execOp, e]
   exact qF.pure _
  split at hs
  ·rename_i b o' hx; exact fin hx (.inl ⟨_, _, rfl⟩)
  ·rename_i d i o' hx; exact fin hx (.inr (.inl ⟨_, _, _, rfl⟩))
  ·rename_i e t y o' hx; exact fin hx (.inr (.inr (.inl ⟨_, _, _, _, rfl⟩)))
  ·rename_i d i o' j o2 hx; exact fin hx (.inr (.inr (.inr ⟨_, _, _, _, _, rfl⟩)))
  ·cases hs
 | fieldAddr t x f =>
  simp only [jY] at hs
  split at hs
  ·rename_i i hi
   split at hs
   ·rename_i off ft hf
    split at hs
    ·cases hs
    ·rename_i g hne hsz
     have fin : ∀ {p : CV}, opv st x = some (.c p) -> ((∃ b o, p = .pbox b o) \/ (∃ d i o, p = .pelt d i o) \/ (∃ e t x o, p = .pdat e t x o) \/ ∃ d i o j o2, p = .pn d i o j o2) -> qF P (execOp a.eval { dst := dst, op := .fieldAddr t x f, type := ty, pos := pos, after := af, guard := gd }) := by
      rintro p hx hp
      obtain ⟨b, o, e⟩ := qJi (qW h hx) hp
      refine jJ (s := Instr.fieldAt t (a.eval x) f) (qF.ok (x := .pointer (some ⟨b, o + off, none⟩)) fun w' => ?_)
      rw [e]
      exact qCF hC hi hf (g := g.1) (n := g.2) hsz (fun h0 => hne g.1 (by rw [<- h0])) b o
     split at hs
     ·rename_i b o' hx; exact fin hx (.inl ⟨_, _, rfl⟩)
     ·rename_i d i o' hx; exact fin hx (.inr (.inl ⟨_, _, _, rfl⟩))
     ·rename_i e t y o' hx; exact fin hx (.inr (.inr (.inl ⟨_, _, _, _, rfl⟩)))
     ·rename_i d i o' j o2 hx; exact fin hx (.inr (.inr (.inr ⟨_, _, _, _, _, rfl⟩)))
     ·cases hs
    ·cases hs
   ·cases hs
  ·cases hs
 | field t x f => exact jJ (qGG _ _ _)
 | extract x i => exact jJ (qEz _ _)
 | build t parts => exact jJ (qGH _ _)
 | indexAddr t x i => exact jJ (qEy _ _ _)
 | index t x i => exact jJ (qGF _ _ _)
 | slice t x lo hi mx => exact jJ (qEx _ _ _ _ _)
 | makeFunc f first caps => exact qF.pure _
 | call c =>
  simp only [jY] at hs
  split at hs
  ·rename_i b hb
   split at hs
   ·rename_i vs hvs
    have hex : ∀ s : Sem Value, (∀ cs, builtin b c.argTypes ty cs (c.args.map a.eval) = (do pure (.value (<- s)))) -> execOp a.eval { dst := dst, op := .call c, type := ty, pos := pos, after := af, guard := gd } = (do pure (.value (<- s))) := by
     intro s hb'
     simp only [execOp, resolve, hb]
     exact hb' _
    unfold qHO at hs
    cases hc : cvs vs with
    | none => simp [hc] at hs
    | some xs =>
     simp only [hc] at hs
     have ha := qJ9 hc (qCh h hvs)
     split at hs
     ·rename_i t ts s hty
      split at hs
      ·rename_i hk'
       obtain ⟨u, e1, e2⟩ := qBh ha
       rw [show u = .string ⟨⟨s⟩⟩ from e2] at e1
       rw [hex (Builtin.len_ c.argTypes ty (c.args.map a.eval)) fun _ => rfl]
       refine jJ (qF.ok (x := .int .i64 s.length) fun w' => ?_)
       rw [e1]
       exact qCE (t := t) (by rw [<- Array.getElem?_toList, hty]; rfl) (qBb hC hk')
      ·cases hs
     ·rename_i t ts x hne hty
      split at hs
      ·rename_i n hn
       split at hs
       ·rename_i hk'
        obtain ⟨u, e1, e2⟩ := qBh ha
        obtain ⟨b', c', rfl⟩ := qD5 h e2 hn
        obtain ⟨m, hm⟩ := Option.isSome_iff_exists.1 hk'
        obtain ⟨e', j', hu, _⟩ := qAH hC hm
        rw [hex (Builtin.len_ c.argTypes ty (c.args.map a.eval)) fun _ => rfl]
        refine jJ (qF.ok (x := .int .i64 n) fun w' => ?_)
        rw [e1]
        exact qDu (t := t) (by rw [<- Array.getElem?_toList, hty]; rfl) hu
       ·cases hs
      ·cases hs
     ·simp [Oper.kd, hb] at hk
     ·rename_i x xs'
      cases hm : kC false x xs' with
      | none => simp [hm] at hs
      | some y =>
       rw [hex (Builtin.min_ c.argTypes ty (c.args.map a.eval)) fun _ => rfl]
       refine jJ ?_
       unfold Builtin.min_
       simp only [Array.toList_map]
       cases hl : c.args.toList.map a.eval with
       | nil => rw [hl] at ha; exact ha.elim
       | cons u us =>
        rw [hl] at ha
        cases xs' with
        | nil => cases us with
         | nil => exact qF.pure _
         | cons _ _ => exact ha.2.elim
        | cons y1 ys =>
         obtain ⟨h1, h2⟩ := xC hm (by simp)
         obtain ⟨z, hz⟩ := Option.isSome_iff_exists.1 h2
         refine qF.scalar (ρ := ρ) hz fun w' => ?_
         have ha' := qBx (ρ' := ρ) (w' := w') ha h1
         exact qJt ha'.1 ha'.2 hm
     ·rename_i x xs'
      cases hm : kC true x xs' with
      | none => simp [hm] at hs
      | some y =>
       rw [hex (Builtin.max_ c.argTypes ty (c.args.map a.eval)) fun _ => rfl]
       refine jJ ?_
       unfold Builtin.max_
       simp only [Array.toList_map]
       cases hl : c.args.toList.map a.eval with
       | nil => rw [hl] at ha; exact ha.elim
       | cons u us =>
        rw [hl] at ha
        cases xs' with
        | nil => cases us with
         | nil => exact qF.pure _
         | cons _ _ => exact ha.2.elim
        | cons y1 ys =>
         obtain ⟨h1, h2⟩ := xC hm (by simp)
         obtain ⟨z, hz⟩ := Option.isSome_iff_exists.1 h2
         refine qF.scalar (ρ := ρ) hz fun w' => ?_
         have ha' := qBx (ρ' := ρ) (w' := w') ha h1
         exact qJv ha'.1 ha'.2 hm
     ·simp [Oper.kd, hb] at hk
     ·cases hs
   ·cases hs
  ·cases hs
 | store t x y => simp [Oper.kd] at hk
 | box t x => simp [Oper.kd] at hk
 | alloc t => simp [Oper.kd] at hk
 | range t x => simp [Oper.kd] at hk
 | makeMap t x => simp [Oper.kd] at hk
 | lookup t x y z => simp [Oper.kd] at hk
 | mapUpdate t x y z => simp [Oper.kd] at hk
 | insert t x y z => simp [Oper.kd] at hk
 | buildSlice t n parts => simp [Oper.kd] at hk
 | makeSlice t x y => simp [Oper.kd] at hk
 | load t x => simp [Oper.kd] at hk
 | _ => simp [jY] at hs
theorem qKO (hC : jK P C) (h : Rep φ ρ st a w) {o : Oper} {r : R1} (hs : jY C st o = some r) (hg : r.g = true) (hk : Oper.kd C o ≠ .eff) : kA P (execOp a.eval o) := by
 cases hb : Oper.kd C o with
 | blind => exact (qHP hC h hs hg hb).still
 | eff => exact absurd hb hk
 | reads =>
  obtain ⟨dst, op, ty, pos, af, gd⟩ := o
  cases op with
  | load t x => exact kA.bind (qE0 _ _) fun _ => (qF.pure _).still
  | convert s t x =>
   simp only [jY] at hs
   split at hs
   ·rename_i p hx
    unfold qKb at hs
    simp only [Oper.kd] at hb
    cases hj : C.ti s with
    | none => simp [hj] at hs
    | some j =>
     cases hi : C.ti t with
     | none => simp [hj, hi] at hs
     | some i =>
      simp only [hj, hi] at hs hb
      split at hb
      ·cases hb
      ·cases hb
      ·rename_i hty hne
       rw [hty] at hs
       obtain ⟨sd, hsd, _⟩ := (hC.ti s j hj).und
       have Ti := hC.ti t i hi
       have Tj := hC.ti s j hj
       refine kA.bind (s := convert s t (a.eval x)) ?_ fun _ => (qF.pure _).still
       split at hs
       ·rename_i heq; cases heq
       ·rename_i z _; exact (qBg hC hj hi (x := .str z) (show CVR ρ w (.str z) (a.eval x) from qW h hx) (.inr ⟨_, rfl, hty⟩)).still
       ·rename_i heq; cases heq
       ·rename_i heq; cases heq
       ·split at hs
        ·rename_i e' t' hje
         split at hs
         ·cases hs
         ·rename_i he
          split at hs
          ·rename_i e2 l hr
           have hx0 : zQ ρ w _ (a.eval x) := qBO (by intro f sh n cs hh; rw [hh] at hr; simp [xL] at hr) (qW h hx)
           have hrd := wW h hr hx0
           obtain ⟨A, c, e3, _⟩ := hrd
           have he' := qEk hC (by simpa using he)
           intro w1 w2 v hrun
           refine qAA (P := P) (a.eval x) w1 w2 v ?_
           rw [<- hrun, e3]
           simp [convert, run_underlying (Tj.tySl _ _ hje), run_underlying (Ti.tyStr hty), run_underlying he']
          ·cases hs
        ·cases hs
       ·cases hs
      ·cases hb
   ·cases hs
  | call c => simp only [Oper.kd] at hb; split at hb <;> cases hb
  | _ => simp [Oper.kd] at hb
end
end Go.Vsi
end
