/- A machine on plain data for the code of the program, and what it means in memory. No statement is proved here. -/
import Derived.Test.YtaeadfaldglniaaGreatM3
import Derived.Sort.Row
import Derived.Sort.Grow
import Derived.Shelf.Spec.SlicesGrow
set_option linter.unusedVariables false
set_option linter.unusedSimpArgs false

section
namespace Go.Vsi
def qHM : List CV -> List Value -> Bool
 | [], [] => true
 | c :: cs, v :: vs => (match c, v with
  | .int k n, .int k' m => decide (k = k') && decide (n = m)
  | .bool b, .bool b' => b == b'
  | .str s, .string x => s == x.data.toList
  | .emp _ _, .slice none 0 0 => true
  | .kon (.pointer none), .pointer none => true
  | .kon .nilFunc, .nilFunc => true
  | .kon .nilIface, .nilIface => true
  | .kon (.map none), .map none => true
  | .undef, v => v.oneCell'
  | _, _ => false) && qHM cs vs
 | _, _ => false
theorem qEf {ρ : Env} {w : World} : ∀ {cs : List CV} {vs : List Value}, qHM cs vs = true -> qX (zE ρ w) cs vs /\ ∀ c ∈ cs, ∀ e t l, c ≠ .dat e t l
 | [], [], _ => ⟨trivial, fun c hc => by cases hc⟩
 | [], _ :: _, h => by simp [qHM] at h
 | _ :: _, [], h => by simp [qHM] at h
 | c :: cs, v :: vs, h => by
  simp only [qHM, Bool.and_eq_true] at h
  obtain ⟨h1, h2⟩ := h
  obtain ⟨q1, q2⟩ := qEf (ρ := ρ) (w := w) h2
  have key : zE ρ w c v /\ ∀ e t l, c ≠ .dat e t l := by
   split at h1
   ·rename_i k n k' m
    simp only [Bool.and_eq_true, decide_eq_true_eq] at h1
    obtain ⟨rfl, rfl⟩ := h1
    exact ⟨rfl, by intro e t l hh; cases hh⟩
   ·rename_i b b'
    have : b = b' := by simpa using h1
    subst this
    exact ⟨rfl, by intro e t l hh; cases hh⟩
   ·rename_i s x
    have : s = x.data.toList := by simpa using h1
    subst this
    exact ⟨rfl, by intro e t l hh; cases hh⟩
   ·exact ⟨⟨none, rfl⟩, by intro e t l hh; cases hh⟩
   ·exact ⟨⟨rfl, rfl⟩, by intro e t l hh; cases hh⟩
   ·exact ⟨⟨rfl, rfl⟩, by intro e t l hh; cases hh⟩
   ·exact ⟨⟨rfl, rfl⟩, by intro e t l hh; cases hh⟩
   ·exact ⟨⟨rfl, rfl⟩, by intro e t l hh; cases hh⟩
   ·exact ⟨h1, by intro e t l hh; cases hh⟩
   ·cases h1
  refine ⟨⟨key.1, q1⟩, fun c' hc' => ?_⟩
  rcases List.mem_cons.1 hc' with rfl | hc'
  ·exact key.2
  ·exact q2 c' hc'
def qBF (P : Program) : List Field -> List (Nat × TypeId) -> Bool
 | [], [] => true
 | f :: fs, (off, t) :: r => f.offset == off && f.type == t && (P.info? t).isSome && qBF P fs r
 | _, _ => false
theorem qDZ {P : Program} : ∀ {fs : List Field} {l : List (Nat × TypeId)}, qBF P fs l = true -> fs.length = l.length /\ ∀ (f : Nat) off ft, l[f]? = some (off, ft) -> ∃ fd : Field, fs[f]? = some fd /\ fd.offset = off /\ fd.type = ft /\ (P.info? ft).isSome = true
 | [], [], _ => ⟨rfl, fun f off ft h => by simp at h⟩
 | [], _ :: _, h => by simp [qBF] at h
 | _ :: _, [], h => by simp [qBF] at h
 | f :: fs, (off, t) :: r, h => by
  simp only [qBF, Bool.and_eq_true, beq_iff_eq] at h
  obtain ⟨⟨⟨h1, h2⟩, h3⟩, h4⟩ := h
  obtain ⟨q1, q2⟩ := qDZ h4
  refine ⟨by simp [q1], fun k off' ft' hk => ?_⟩
  cases k with
  | zero =>
   simp only [List.getElem?_cons_zero, Option.some.injEq, Prod.mk.injEq] at hk
   obtain ⟨rfl, rfl⟩ := hk
   exact ⟨f, rfl, h1, h2, h3⟩
  | succ k => exact q2 k off' ft' (by simpa using hk)
def tiB (P : Program) (t : TypeId) (i : TI) : Bool := match P.info? t, P.underlying t with
 | some inf, some d => decide (inf.size = i.size) && decide (inf.bytes = i.bytes) &&
  (match inf.zero with
   | some z => qHM i.zero z.cells.toList && decide (z.cells.size = i.size) && (match i.isAgg, z with | true, .agg _ => true | true, _ => false | false, .agg _ => false | false, .tuple _ => false | false, _ => true)
   | none => false) &&
  (i.isAgg == (match d with | .struct _ | .array _ _ => true | _ => false)) &&
  (match i.elem with | none => true | some e => (match d with | .slice e' => e == e' | _ => false)) &&
  (match d with | .struct fs => qBF P fs.toList i.fields | _ => i.fields.isEmpty) &&
  (match i.sty, d with
   | some (.int k), .int k' => decide (k = k') | some (.int _), _ => false
   | some .bool, .bool => true | some .bool, _ => false
   | some .str, .string => true | some .str, _ => false
   | some (.sl e _), .slice e' => e == e' | some (.sl _ _), _ => false
   | _, _ => true) &&
  (match i.eqc, d with
   | [], _ => true
   | us, .struct fs => !P.stoodInHeld t && !P.eqGuardType P.depth t && eqB P 0 fs.toList us
   | _, _ => false) &&
  (match i.mpt with
   | none => true
   | some (k, v) => (match d with | .map k' v' => k' == k && v' == v | _ => false))
 | _, _ => false
theorem qMV {P : Program} {t : TypeId} {i : TI} (h : tiB P t i = true) : qLV P t i := by
 unfold tiB at h
 split at h
 ·rename_i inf d hinf hund
  simp only [Bool.and_eq_true, decide_eq_true_eq] at h
  obtain ⟨⟨⟨⟨⟨⟨⟨⟨h1, h2⟩, h3⟩, h4⟩, h5⟩, h6⟩, h7⟩, h8⟩, h9⟩ := h
  split at h3
  ·rename_i z hz
   simp only [Bool.and_eq_true, decide_eq_true_eq] at h3
   obtain ⟨⟨k1, k2⟩, k3⟩ := h3
   refine {
    inf := ⟨inf, hinf, h1, h2, z, hz, fun ρ w => (qEf k1).1, k2, fun ha => ?_, fun ha => ?_⟩
    und := ⟨d, hund, by rw [beq_iff_eq.1 h4]; cases d <;> rfl⟩
    elem := fun e he => ?_
    flds := fun fs hfs => ?_
    strct := fun hne => ?_
    nodat := (qEf (ρ := bare fun _ => False) (w := default) k1).2
    tyInt := fun k hk => ?_
    tyBool := fun hk => ?_
    tyStr := fun hk => ?_
    tySl := fun e u hk => ?_
    mpt := fun kt vt he => ?_
    eqs := fun hne => ?_ }
   ·rw [ha] at k3
    cases z <;> simp at k3
    exact ⟨_, rfl⟩
   ·rw [ha] at k3
    cases z <;> simp at k3 <;> rfl
   ·rw [he] at h5
    cases d <;> simp at h5
    subst h5; exact hund
   ·rw [hfs] at hund
    simp only [Option.some.injEq] at hund
    subst hund
    obtain ⟨q1, q2⟩ := qDZ h6
    refine ⟨by simpa using q1, fun f off ft hf => ?_⟩
    obtain ⟨fd, e1, e2⟩ := q2 f off ft hf
    exact ⟨fd, by simpa using e1, e2⟩
   ·cases d with
    | struct fs => exact ⟨fs, hund⟩
    | _ => simp only [List.isEmpty_iff] at h6; exact absurd h6 hne
   ·rw [hk] at h7
    cases d <;> simp at h7
    subst h7; exact hund
   ·rw [hk] at h7
    cases d <;> simp at h7
    exact hund
   ·rw [hk] at h7
    cases d <;> simp at h7
    exact hund
   ·rw [hk] at h7
    cases d <;> simp at h7
    subst h7; exact hund
   ·rw [he] at h9
    cases d <;> simp at h9
    obtain ⟨rfl, rfl⟩ := h9; exact hund
   ·split at h8
    ·rename_i he; exact absurd he hne
    ·rename_i us fs he
     simp only [Bool.and_eq_true, Bool.not_eq_true'] at h8
     exact ⟨h8.1.1, h8.1.2, fs, hund, h8.2⟩
    ·cases h8
  ·cases h3
 ·cases h
def qFt : List Nat -> Bool
 | [] => true
 | x :: l => !l.contains x && qFt l
theorem qCT : ∀ {l : List Nat}, qFt l = true -> l.Nodup
 | [], _ => List.nodup_nil
 | x :: l, h => by
  simp only [qFt, Bool.and_eq_true, Bool.not_eq_true', List.contains_eq_mem, decide_eq_false_iff_not] at h
  exact List.nodup_cons.2 ⟨h.1, qCT h.2⟩
def fnB (fi : Fi) (fn : Func) : Bool := !(fn.name == "runtime.NumGoroutine") && match fn.body with
 | some c => qFt (zQ c) && qFt (vQ (fun k => (qL (1000000 + k) fi.loops).isSome) c)
 | none => true
theorem qNe {P : Program} {tis : List (Nat × TI)} {fns : List (Nat × Func)} {fi : FuncId -> Fi} (h1 : (tis.all fun x => tiB P x.1 x.2) = true) (h2 : ∀ x ∈ fns, P.funcs[x.1]? = some x.2) :
  jD P { ti := fun t => qL t tis, fs := fun f => qL f fns, fi := fi } where
 ti := fun t i h => qMV (List.all_eq_true.1 h1 (t, i) (kQ h))
 fs := fun f fn h => h2 (f, fn) (kQ h)
theorem fns_ok {P : Program} {ti : TypeId -> Option TI} {fns : List (Nat × Func)} {fi : FuncId -> Fi} (h : (fns.all fun x => fnB (fi x.1) x.2) = true) : qGb P { ti := ti, fs := fun f => qL f fns, fi := fi } where
 name := fun f fn hf => by
  have := List.all_eq_true.1 h (f, fn) (kQ hf)
  unfold fnB at this
  simp only [Bool.and_eq_true, Bool.not_eq_true'] at this
  exact this.1
 ids := fun f fn c hf hc => by
  have := List.all_eq_true.1 h (f, fn) (kQ hf)
  unfold fnB at this
  simp only [hc, Bool.and_eq_true] at this
  exact qCT this.2.1
 cuts := fun f fn c hf hc => by
  have := List.all_eq_true.1 h (f, fn) (kQ hf)
  unfold fnB at this
  simp only [hc, Bool.and_eq_true] at this
  exact qCT this.2.2
def noX : CallF := fun _ _ _ => False
theorem noX_ok (P : Program) (C : Ctx) : kS P C noX := fun f args K h => h.elim
theorem noX_mono : CallF.Mono noX := fun f a K K' _ h => h
inductive T0 where
 | undef | int (k : IntKind) | bool | str
 | emp (e : TypeId) (t : Ty) | dat (e : TypeId) (t : Ty)
 | own (d : Nat) | vw (d : Nat) | nref (d off : Nat)
 | pbox (b off : Nat) | pelt (d off : Nat) | pn (d off off2 : Nat)
 | pdat (e : TypeId) (t : Ty) (off : Nat)
 | row (e : TypeId) (t : Ty) (m : Nat)
 | mrow (e : TypeId) (t : Ty) (m : Nat)
abbrev T0.V : T0 -> Type
 | .int _ => Int | .bool => Bool | .str => List UInt8
 | .dat _ t => List t.T
 | .vw _ => Nat × Nat | .nref _ _ => Nat | .pelt _ _ => Nat | .pn _ _ _ => Nat × Nat
 | .pdat _ t _ => t.T
 | .row _ t _ => List t.T
 | .mrow _ t _ => List t.T
 | .undef => Unit | .emp _ _ => Unit | .own _ => Unit | .pbox _ _ => Unit
def T0.fill : (T : T0) -> T.V -> CV
 | .undef, _ => .undef | .int k, n => .int k n | .bool, b => .bool b | .str, s => .str s
 | .emp e t, _ => .emp e t | .dat e t, l => .dat e t l
 | .own d, _ => .own d | .vw d, p => .vw d p.1 p.2 | .nref d off, i => .nref d i off
 | .pbox b off, _ => .pbox b off | .pelt d off, i => .pelt d i off | .pn d off off2, p => .pn d p.1 off p.2 off2
 | .pdat e t off, x => .pdat e t x off
 | .row e t m, l => .row { e := e, t := t, l := l, m := m }
 | .mrow e t m, l => .row { e := e, t := t, l := [], m := m, hole := some (0, vL), mp := l }
def T0.fit : (T : T0) -> CV -> Option T.V
 | .undef, .undef => some ()
 | .int k, .int k' n => if k' = k then some n else none
 | .bool, .bool b => some b
 | .str, .str s => some s
 | .emp e t, .emp e' t' => if e' = e /\ t' = t then some () else none
 | .dat e t, .dat e' t' l => if e' = e then (if h : t' = t then some (xI (t := .sl e t') (u := .sl e t) (by rw [h]) l) else none) else none
 | .own d, .own d' => if d' = d then some () else none
 | .vw d, .vw d' a b => if d' = d then some (a, b) else none
 | .nref d off, .nref d' i off' => if d' = d /\ off' = off then some i else none
 | .pbox b off, .pbox b' off' => if b' = b /\ off' = off then some () else none
 | .pelt d off, .pelt d' i off' => if d' = d /\ off' = off then some i else none
 | .pn d off off2, .pn d' i off' j off2' => if d' = d /\ off' = off /\ off2' = off2 then some (i, j) else none
 | .pdat e t off, .pdat e' t' x off' => if e' = e /\ off' = off then (if h : t' = t then some (xI h x) else none) else none
 | .mrow e t m, .row r => if r.e = e /\ r.m = m /\ r.hole = some (0, vL) /\ r.l.isEmpty = true then (if h : r.t = t then some (xI (t := .sl e r.t) (u := .sl e t) (by rw [h]) r.mp) else none) else none
 | .row e t m, .row r => if r.e = e /\ r.m = m /\ r.hole = none /\ r.mp.isEmpty = true then (if h : r.t = t then some (xI (t := .sl e r.t) (u := .sl e t) (by rw [h]) r.l) else none) else none
 | _, _ => none
theorem T0.fit_fill : ∀ {T : T0} {c : CV} {v : T.V}, T.fit c = some v -> c = T.fill v := by
 intro T c v h
 cases T <;> cases c <;> simp only [T0.fit] at h <;> try (cases h; done)
 case undef.undef => rfl
 case int.int k k' n =>
  split at h
  ·rename_i hk; subst hk; cases h; rfl
  ·cases h
 case bool.bool => cases h; rfl
 case str.str => cases h; rfl
 case emp.emp =>
  split at h
  ·rename_i hk; obtain ⟨rfl, rfl⟩ := hk; rfl
  ·cases h
 case dat.dat =>
  split at h
  ·rename_i hk; subst hk
   split at h
   ·rename_i hk; subst hk; cases h; rfl
   ·cases h
  ·cases h
 case own.own =>
  split at h
  ·rename_i hk; subst hk; rfl
  ·cases h
 case vw.vw =>
  split at h
  ·rename_i hk; subst hk; cases h; rfl
  ·cases h
 case nref.nref =>
  split at h
  ·rename_i hk; obtain ⟨rfl, rfl⟩ := hk; cases h; rfl
  ·cases h
 case pbox.pbox =>
  split at h
  ·rename_i hk; obtain ⟨rfl, rfl⟩ := hk; rfl
  ·cases h
 case pelt.pelt =>
  split at h
  ·rename_i hk; obtain ⟨rfl, rfl⟩ := hk; cases h; rfl
  ·cases h
 case pn.pn =>
  split at h
  ·rename_i hk; obtain ⟨rfl, rfl, rfl⟩ := hk; cases h; rfl
  ·cases h
 case pdat.pdat =>
  split at h
  ·rename_i hk; obtain ⟨rfl, rfl⟩ := hk
   split at h
   ·rename_i hk; subst hk; cases h; rfl
   ·cases h
  ·cases h
 case row.row e t m r =>
  obtain ⟨e', t', l, m', hole, mp⟩ := r
  split at h
  ·rename_i hk
   obtain ⟨h1, h2, h3, h4⟩ := hk
   simp only at h1 h2 h3 h4
   rw [List.isEmpty_iff] at h4
   subst h1; subst h2; subst h3; subst h4
   split at h
   ·rename_i hk; simp only at hk; subst hk; cases h; rfl
   ·cases h
  ·cases h
 case mrow.row e t m r =>
  obtain ⟨e', t', l, m', hole, mp⟩ := r
  split at h
  ·rename_i hk
   obtain ⟨h1, h2, h3, h4⟩ := hk
   simp only at h1 h2 h3 h4
   rw [List.isEmpty_iff] at h4
   subst h1; subst h2; subst h3; subst h4
   split at h
   ·rename_i hk; simp only at hk; subst hk; cases h; rfl
   ·cases h
  ·cases h
abbrev V0s : List T0 -> Type
 | [] => Unit
 | t :: r => t.V × V0s r
def qJK : (l : List T0) -> V0s l -> List CV
 | [], _ => []
 | t :: r, v => t.fill v.1 :: qJK r v.2
def qMs : (l : List T0) -> List CV -> Option (V0s l)
 | [], [] => some ()
 | t :: r, c :: cs => match t.fit c with
  | some v => match qMs r cs with
   | some vs => some (v, vs)
   | none => none
  | none => none
 | _, _ => none
theorem qC8 : ∀ {l : List T0} {cs : List CV} {v : V0s l}, qMs l cs = some v -> cs = qJK l v
 | [], [], v, h => rfl
 | [], _ :: _, v, h => by simp [qMs] at h
 | _ :: _, [], v, h => by simp [qMs] at h
 | t :: r, c :: cs, v, h => by
  simp only [qMs] at h
  split at h
  ·rename_i x hx
   split at h
   ·rename_i y hy
    cases h
    rw [qJK, <- T0.fit_fill hx, <- qC8 hy]
   ·cases h
  ·cases h
inductive T1 where
 | o (t : T0)
 | fn (f : FuncId) (sh : List (Bool × Nat)) (n : Nat) (cs : List T0)
 | boxr (e : TypeId) (cs : List T0)
abbrev T1.V : T1 -> Type
 | .o t => t.V
 | .fn _ _ _ cs => V0s cs
 | .boxr _ cs => V0s cs
def T1.fill : (T : T1) -> T.V -> CV
 | .o t, v => t.fill v
 | .fn f sh n cs, v => .fn f sh n (qJK cs v)
 | .boxr e cs, v => .boxr e (qJK cs v)
def T1.fit : (T : T1) -> CV -> Option T.V
 | .o t, c => t.fit c
 | .fn f sh n cs, c => match c with
  | .fn f' sh' n' cs' => if f' = f /\ sh' = sh /\ n' = n then qMs cs cs' else none
  | _ => none
 | .boxr e cs, c => match c with
  | .boxr e' cs' => if e' = e then qMs cs cs' else none
  | _ => none
theorem T1.fit_fill : ∀ {T : T1} {c : CV} {v : T.V}, T.fit c = some v -> c = T.fill v
 | .o t, c, v, h => T0.fit_fill h
 | .fn f sh n cs, c, v, h => by
  simp only [T1.fit] at h
  split at h
  ·split at h
   ·rename_i hk
    obtain ⟨rfl, rfl, rfl⟩ := hk
    rw [qC8 h]; rfl
   ·cases h
  ·cases h
 | .boxr e cs, c, v, h => by
  simp only [T1.fit] at h
  split at h
  ·split at h
   ·rename_i hk
    subst hk
    rw [qC8 h]; rfl
   ·cases h
  ·cases h
abbrev V1s : List T1 -> Type
 | [] => Unit
 | t :: r => t.V × V1s r
def qIa : (l : List T1) -> V1s l -> List CV
 | [], _ => []
 | t :: r, v => t.fill v.1 :: qIa r v.2
def qLp : (l : List T1) -> List CV -> Option (V1s l)
 | [], [] => some ()
 | t :: r, c :: cs => match t.fit c with
  | some v => match qLp r cs with
   | some vs => some (v, vs)
   | none => none
  | none => none
 | _, _ => none
theorem qBe : ∀ {l : List T1} {cs : List CV} {v : V1s l}, qLp l cs = some v -> cs = qIa l v
 | [], [], v, h => rfl
 | [], _ :: _, v, h => by simp [qLp] at h
 | _ :: _, [], v, h => by simp [qLp] at h
 | t :: r, c :: cs, v, h => by
  simp only [qLp] at h
  split at h
  ·rename_i x hx
   split at h
   ·rename_i y hy
    cases h
    rw [qIa, <- T1.fit_fill hx, <- qBe hy]
   ·cases h
  ·cases h
inductive TS where
 | u
 | c (t : T1)
 | a (ts : List T1)
 | k (f : FuncId) (n : Nat) (ts : List T1)
abbrev TS.V : TS -> Type
 | .u => Unit
 | .c t => t.V
 | .a ts => V1s ts
 | .k _ _ ts => V1s ts
def TS.fill : (T : TS) -> T.V -> SV
 | .u, _ => .undef
 | .c t, v => .c (t.fill v)
 | .a ts, v => .agg (qIa ts v)
 | .k f n ts, v => .clo f n (qIa ts v)
def TS.fit : (T : TS) -> SV -> Option T.V
 | .u, x => match x with
  | .undef => some ()
  | _ => none
 | .c t, x => match x with
  | .c y => t.fit y
  | _ => none
 | .a ts, x => match x with
  | .agg ys => qLp ts ys
  | _ => none
 | .k f n ts, x => match x with
  | .clo f' n' ys => if f' = f /\ n' = n then qLp ts ys else none
  | _ => none
theorem TS.fit_fill : ∀ {T : TS} {x : SV} {v : T.V}, T.fit x = some v -> x = T.fill v
 | .u, x, v, h => by
  simp only [TS.fit] at h
  split at h
  ·rfl
  ·cases h
 | .c t, x, v, h => by
  simp only [TS.fit] at h
  split at h
  ·rw [T1.fit_fill h]; rfl
  ·cases h
 | .a ts, x, v, h => by
  simp only [TS.fit] at h
  split at h
  ·rw [qBe h]; rfl
  ·cases h
 | .k f n ts, x, v, h => by
  simp only [TS.fit] at h
  split at h
  ·split at h
   ·rename_i hk
    obtain ⟨rfl, rfl⟩ := hk
    rw [qBe h]; rfl
   ·cases h
  ·cases h
abbrev VA : List TS -> Type
 | [] => Unit
 | t :: r => t.V × VA r
def qAu : (l : List TS) -> VA l -> List SV
 | [], _ => []
 | t :: r, v => t.fill v.1 :: qAu r v.2
def qMN : (l : List TS) -> List SV -> Option (VA l)
 | [], [] => some ()
 | t :: r, c :: cs => match t.fit c with
  | some v => match qMN r cs with
   | some vs => some (v, vs)
   | none => none
  | none => none
 | _, _ => none
theorem qFN : ∀ {l : List TS} {cs : List SV} {v : VA l}, qMN l cs = some v -> cs = qAu l v
 | [], [], v, h => rfl
 | [], _ :: _, v, h => by simp [qMN] at h
 | _ :: _, [], v, h => by simp [qMN] at h
 | t :: r, c :: cs, v, h => by
  simp only [qMN] at h
  split at h
  ·rename_i x hx
   split at h
   ·rename_i y hy
    cases h
    rw [qAu, <- TS.fit_fill hx, <- qFN hy]
   ·cases h
  ·cases h
abbrev VS : List (Nat × TS) -> Type
 | [] => Unit
 | t :: r => t.2.V × VS r
def qKV : (l : List (Nat × TS)) -> VS l -> List (Nat × SV)
 | [], _ => []
 | t :: r, v => (t.1, t.2.fill v.1) :: qKV r v.2
def qML : (l : List (Nat × TS)) -> List (Nat × SV) -> Option (VS l)
 | [], [] => some ()
 | t :: r, c :: cs => if c.1 = t.1 then (match t.2.fit c.2 with
  | some v => match qML r cs with
   | some vs => some (v, vs)
   | none => none
  | none => none) else none
 | _, _ => none
theorem qFL : ∀ {l : List (Nat × TS)} {cs : List (Nat × SV)} {v : VS l}, qML l cs = some v -> cs = qKV l v
 | [], [], v, h => rfl
 | [], _ :: _, v, h => by simp [qML] at h
 | _ :: _, [], v, h => by simp [qML] at h
 | t :: r, c :: cs, v, h => by
  simp only [qML] at h
  split at h
  ·rename_i hk
   split at h
   ·rename_i x hx
    split at h
    ·rename_i y hy
     cases h
     rw [qKV, <- TS.fit_fill hx, <- qFL hy, <- hk]
    ·cases h
   ·cases h
  ·cases h
structure RT where
 d : Nat
 e : TypeId
 t : Ty
 m : Nat
 mp : Bool
abbrev VR : List RT -> Type
 | [] => Unit
 | t :: r => List t.t.T × VR r
def qJJ : (l : List RT) -> VR l -> List (Nat × Row)
 | [], _ => []
 | t :: r, v => (t.d, match t.mp with
  | false => { e := t.e, t := t.t, l := v.1, m := t.m }
  | true => { e := t.e, t := t.t, l := [], m := t.m, hole := some (0, vL), mp := v.1 }) :: qJJ r v.2
def qLo : (l : List RT) -> List (Nat × Row) -> Option (VR l)
 | [], [] => some ()
 | t :: r, c :: cs => match t.mp with
  | false => if c.1 = t.d /\ c.2.e = t.e /\ c.2.m = t.m /\ c.2.hole = none /\ c.2.mp.isEmpty = true then (if h : c.2.t = t.t then (match qLo r cs with
   | some vs => some (xI (t := .sl 0 c.2.t) (u := .sl 0 t.t) (by rw [h]) c.2.l, vs)
   | none => none) else none) else none
  | true => if c.1 = t.d /\ c.2.e = t.e /\ c.2.m = t.m /\ c.2.hole = some (0, vL) /\ c.2.l.isEmpty = true then (if h : c.2.t = t.t then (match qLo r cs with
   | some vs => some (xI (t := .sl 0 c.2.t) (u := .sl 0 t.t) (by rw [h]) c.2.mp, vs)
   | none => none) else none) else none
 | _, _ => none
theorem qC7 : ∀ {l : List RT} {cs : List (Nat × Row)} {v : VR l}, qLo l cs = some v -> cs = qJJ l v
 | [], [], v, h => rfl
 | [], _ :: _, v, h => by simp [qLo] at h
 | _ :: _, [], v, h => by simp [qLo] at h
 | ⟨d, e, t, m, false⟩ :: r, (d', ⟨e', t', l, m', hole, mp⟩) :: cs, v, h => by
  simp only [qLo] at h
  split at h
  ·rename_i hk
   obtain ⟨rfl, rfl, rfl, rfl, h4⟩ := hk
   rw [List.isEmpty_iff] at h4
   subst h4
   split at h
   ·rename_i hk
    subst hk
    split at h
    ·rename_i y hy
     cases h
     rw [qJJ, <- qC7 hy]; rfl
    ·cases h
   ·cases h
  ·cases h
 | ⟨d, e, t, m, true⟩ :: r, (d', ⟨e', t', l, m', hole, mp⟩) :: cs, v, h => by
  simp only [qLo] at h
  split at h
  ·rename_i hk
   obtain ⟨rfl, rfl, rfl, rfl, h4⟩ := hk
   rw [List.isEmpty_iff] at h4
   subst h4
   split at h
   ·rename_i hk
    subst hk
    split at h
    ·rename_i y hy
     cases h
     rw [qJJ, <- qC7 hy]; rfl
    ·cases h
   ·cases h
  ·cases h
structure BT where
 b : Nat
 e : TypeId
 cs : List T1
 ro : Bool
 it : Bool
abbrev VB : List BT -> Type
 | [] => Unit
 | t :: r => V1s t.cs × VB r
def qKW : (l : List BT) -> VB l -> List (Nat × Box)
 | [], _ => []
 | t :: r, v => (t.b, { e := t.e, cs := qIa t.cs v.1, ro := t.ro, it := t.it }) :: qKW r v.2
def qMM : (l : List BT) -> List (Nat × Box) -> Option (VB l)
 | [], [] => some ()
 | t :: r, c :: cs => if c.1 = t.b /\ c.2.e = t.e /\ c.2.ro = t.ro /\ c.2.it = t.it then (match qLp t.cs c.2.cs with
   | some v => match qMM r cs with
    | some vs => some (v, vs)
    | none => none
   | none => none) else none
 | _, _ => none
theorem qFM : ∀ {l : List BT} {cs : List (Nat × Box)} {v : VB l}, qMM l cs = some v -> cs = qKW l v
 | [], [], v, h => rfl
 | [], _ :: _, v, h => by simp [qMM] at h
 | _ :: _, [], v, h => by simp [qMM] at h
 | ⟨b, e, ts, ro, it⟩ :: r, (b', ⟨e', xs, ro', it'⟩) :: cs, v, h => by
  simp only [qMM] at h
  split at h
  ·rename_i hk
   obtain ⟨rfl, rfl, rfl, rfl⟩ := hk
   split at h
   ·rename_i x hx
    split at h
    ·rename_i y hy
     cases h
     rw [qKW, <- qFM hy, <- qBe hx]
    ·cases h
   ·cases h
  ·cases h
structure ST where
 s : List (Nat × TS)
 r : List RT
 b : List BT
 lR : List Nat
 lB : List Nat
abbrev ST.V (T : ST) : Type := VS T.s × VR T.r × VB T.b
def ST.fill (T : ST) (v : T.V) : St := ⟨qKV T.s v.1, qJJ T.r v.2.1, qKW T.b v.2.2, T.lR, T.lB⟩
def ST.fit (T : ST) (x : St) : Option T.V := match qML T.s x.slots with
 | some a => match qLo T.r x.rows with
  | some b => match qMM T.b x.boxes with
   | some c => if x.lentR = T.lR /\ x.lentB = T.lB then some (a, b, c) else none
   | none => none
  | none => none
 | none => none
theorem ST.fit_fill {T : ST} {x : St} {v : T.V} (h : T.fit x = some v) : x = T.fill v := by
 obtain ⟨s, r, b, lR, lB⟩ := x
 simp only [ST.fit] at h
 split at h
 ·rename_i a ha
  split at h
  ·rename_i b hb
   split at h
   ·rename_i c hc
    split at h
    ·rename_i hk
     cases h
     rw [ST.fill, <- qFL ha, <- qC7 hb, <- qFM hc, <- hk.1, <- hk.2]
    ·cases h
   ·cases h
  ·cases h
 ·cases h
def orC (f : FuncId) (A : List TS) (u : VA A -> (RES -> Prop) -> Prop) (d : CallF) : CallF := fun g a K =>
 if g = f then (match qMN A a with
  | some v => u v K
  | none => d g a K) else d g a K
def noC : CallF := fun _ _ _ => False
def orL (k : Nat) (T : ST) (u : T.V -> (X -> St -> Prop) -> Prop) (d : kM) : kM := fun j st K =>
 if j = k then (match T.fit st with
  | some v => u v K
  | none => d j st K) else d j st K
def noL : kM := fun _ _ _ => False
def qPn (T : ST) (u : T.V -> Prop) : St -> Prop := fun st => match T.fit st with
 | some v => u v
 | none => False
section
variable {C : Ctx} {X0 : CallF} {n : Nat}
theorem qM5 : ∀ g a K, noC g a K -> callM C X0 n g a K := fun _ _ _ h => h.elim
theorem qM4 {f : FuncId} : ∀ k st K, noL k st K -> yF C X0 n f k st K := fun _ _ _ h => h.elim
theorem qM2 {f : FuncId} {A : List TS} {u : VA A -> (RES -> Prop) -> Prop} {d : CallF} (h : ∀ v K, u v K -> callM C X0 n f (qAu A v) K) (hd : ∀ g a K, d g a K -> callM C X0 n g a K) :
  ∀ g a K, orC f A u d g a K -> callM C X0 n g a K := by
 intro g a K hh
 unfold orC at hh
 split at hh
 ·rename_i hg
  subst hg
  split at hh
  ·rename_i v hv
   rw [qFN hv]; exact h v K hh
  ·exact hd _ _ _ hh
 ·exact hd _ _ _ hh
theorem qM1 {f : FuncId} {k : Nat} {T : ST} {u : T.V -> (X -> St -> Prop) -> Prop} {d : kM} (h : ∀ v K, u v K -> yF C X0 n f k (T.fill v) K) (hd : ∀ j st K, d j st K -> yF C X0 n f j st K) :
  ∀ j st K, orL k T u d j st K -> yF C X0 n f j st K := by
 intro j st K hh
 unfold orL at hh
 split at hh
 ·rename_i hg
  subst hg
  split at hh
  ·rename_i v hv
   rw [ST.fit_fill hv]; exact h v K hh
  ·exact hd _ _ _ hh
 ·exact hd _ _ _ hh
theorem qMr {f : FuncId} {k : Nat} {T : ST} {u : T.V -> Prop} {K : X -> St -> Prop} (h : ∀ v, u v -> yF C X0 n f k (T.fill v) K) : ∀ s, qPn T u s -> yF C X0 n f k s K := by
 intro s hs
 unfold qPn at hs
 split at hs
 ·rename_i v hv
  rw [ST.fit_fill hv]; exact h v hs
 ·exact hs.elim
end
section
variable {C : Ctx} {X0 : CallF} (hX : CallF.Mono X0)
include hX
theorem qJZ {f : FuncId} {fn : Func} {c : Code} (hf : C.fs f = some fn) (hb : fn.body = some c) {A : List TS} {u : Nat -> VA A -> (RES -> Prop) -> Prop} (h0 : ∀ v K, ¬ u 0 v K)
  {call : Nat -> CallF} {lp : Nat -> kM} (hc : ∀ n g a K, call n g a K -> callM C X0 n g a K) (hl : ∀ n k st K, lp n k st K -> yF C X0 n f k st K)
  (he : ∀ n v K, u (n + 1) v K = evC C (call n) fn.ntmps (C.fi f) (lp n) c (enter (C.fi f).modes (qAu A v)) (qCk C fn (C.fi f) (qAu A v) K)) :
  ∀ n v K, u n v K -> callM C X0 n f (qAu A v) K
 | 0, v, K, h => (h0 v K h).elim
 | n + 1, v, K, h => qMy hX hf hb (hc n) (hl n) (he n v K) h
theorem qFA {f : FuncId} {k : Nat} {fn : Func} {c a : Code} {li : Li} (hf : C.fs f = some fn) (hb : fn.body = some c) (hk : k < 1000000) (ha : qS k c = some a) (hli : qL k (C.fi f).loops = some li)
  {T : ST} {u : Nat -> T.V -> (X -> St -> Prop) -> Prop} (h0 : ∀ v K, ¬ u 0 v K) {call : Nat -> CallF} {lp : Nat -> kM}
  (hc : ∀ n g a K, call n g a K -> callM C X0 n g a K) (hl : ∀ n k st K, lp n k st K -> yF C X0 n f k st K)
  (he : ∀ n v K, u (n + 1) v K = evC C (call n) fn.ntmps (C.fi f) (lp n) a (T.fill v) (qBT li (qPn T fun v' => u n v' K) K)) :
  ∀ n v K, u n v K -> yF C X0 n f k (T.fill v) K
 | 0, v, K, h => (h0 v K h).elim
 | n + 1, v, K, h => qMj hX hf hb hk ha hli (hc n) (hl n) (qMr fun v' h' => qFA hf hb hk ha hli h0 hc hl he n v' K h') (he n v K) h
theorem qKY {f : FuncId} {k : Nat} {fn : Func} {c a : Code} {li : Li} (hf : C.fs f = some fn) (hb : fn.body = some c) (hk : 1000000 <= k) (ha : qV (k - 1000000) c = some a) (hli : qL k (C.fi f).loops = some li)
  {T : ST} {u : Nat -> T.V -> (X -> St -> Prop) -> Prop} (h0 : ∀ v K, ¬ u 0 v K) {call : Nat -> CallF} {lp : Nat -> kM}
  (hc : ∀ n g a K, call n g a K -> callM C X0 n g a K) (hl : ∀ n k st K, lp n k st K -> yF C X0 n f k st K)
  (he : ∀ n v K, u (n + 1) v K = evC C (call n) fn.ntmps (C.fi f) (lp n) a (T.fill v) (qLs li K)) :
  ∀ n v K, u n v K -> yF C X0 n f k (T.fill v) K
 | 0, v, K, h => (h0 v K h).elim
 | n + 1, v, K, h => qNc hX hf hb hk ha hli (hc n) (hl n) (he n v K) h
end
open Go.Sort
theorem qFg : srt [] = [] := by simp [srt]
theorem qFh (l : List Int) : (srt l).length = l.length := by simp [srt]
def qHS (args : List SV) (K : RES -> Prop) : Prop := match args with
 | [.c (.row ⟨e, .int .i64, l, m + 1, none, []⟩)] => grd (decide ((l : List Int).length <= 1099511627776)) (K ⟨.tup [], [[.row ⟨e, .int .i64, srt l, m + 1, none, []⟩]]⟩)
 | _ => False
def qIJ (sid : FuncId) : CallF := fun f args K => f = sid /\ qHS args K
theorem qFi {b : Bool} {P : Prop} (hb : grd b P) : b = true /\ P := by
 cases b with
 | true => exact ⟨rfl, hb⟩
 | false => exact hb.elim
theorem qHR (sid : FuncId) : CallF.Mono (qIJ sid) := fun f a K K' hK h => by
 refine ⟨h.1, ?_⟩
 have h2 := h.2
 unfold qHS at h2 ⊢
 split at h2
 ·exact qAl (fun hh => hK _ hh) h2
 ·exact h2.elim
structure qLW (P : Program) (sid : FuncId) : Prop where
 some : ∀ (blk off cap : Nat) (zs : List Int) (w : World), Holds (Value.int .i64) w blk off zs.toArray -> blk < w.heap.size -> zs.length < 4611686018427387904 ->
  Calls P sid #[.slice (some ⟨blk, off, none⟩) zs.length cap] w fun e w' => e = .returned (.tuple #[]) /\ ∃ n os, w' = grow (putRow (Value.int .i64) (Sort.ahead w n) blk off (zs.mergeSort fun x y => decide (x <= y)).toArray) os
 none : ∀ (p : Option Addr) (cap : Nat) (w : World), Calls P sid #[.slice p 0 cap] w fun e w' => e = .returned (.tuple #[]) /\ w' = w
theorem qFj {l : List Int} {j : Nat} (h : j < l.length) : l.toArray[j]! = l[j] := by
 rw [getElem!_pos _ j (by simpa using h)]; simp
theorem qKy {P : Program} {C : Ctx} {sid : FuncId} (hS : qLW P sid) (hmod : (C.fi sid).modes = [1]) {fn : Func} (hP : P.funcs[sid]? = Option.some fn) (hn : (fn.name == "runtime.NumGoroutine") = false) (hb : fn.body.isSome = true) : kS P C (qIJ sid) := by
 rintro f args K ⟨rfl, h⟩ hsmall vs w F B htab hs hF hB o a next Q hnext
 unfold qHS at h
 split at h
 rotate_left
 ·exact h.elim
 rename_i e l m
 obtain ⟨hsmall', h⟩ := qFi h
 have hbig : (l : List Int).length <= 1099511627776 := of_decide_eq_true hsmall'
 obtain ⟨v, rest, rfl⟩ : ∃ v rest, vs = v :: rest := by
  cases vs with
  | nil => exact hs.elim
  | cons v rest => exact ⟨v, rest, rfl⟩
 obtain ⟨B1, B2, hd1, hd2, hv, hrest⟩ := hs
 obtain rfl : rest = [] := by
  cases rest with
  | nil => rfl
  | cons _ _ => exact hrest.elim
 have hrun : (callFunc f [v].toArray).run P w = .ok (.enter f [v].toArray) w := by
  unfold callFunc
  obtain ⟨c, hc⟩ := Option.isSome_iff_exists.1 hb
  simp only [Sem.run_bind, program, Sem.run, Result.andThen_ok, hP, hn, Bool.false_eq_true, if_false, hc, Option.isNone_some]
  rfl
 rw [hrun, Oper.upon_enter]
 obtain ⟨_, hO, hlies⟩ := hv
 replace hO := zJ.whole rfl hO
 rw [qM] at hO
 obtain ⟨v', e1, a', c, hv', hO⟩ := hO
 obtain rfl : v = v' := by simpa using e1
 have hmv : [v].toArray = #[v] := rfl
 subst hv'
 have lent : zH (C.fi f).modes [Value.slice a' l.length c] = [[Value.slice a' l.length c]] := by rw [hmod]; rfl
 rcases hO with ⟨hl, rfl⟩ | ⟨b, arr, fr, rfl, hb1, hfr, hsz, hlc, hBb, Bs, g1, g2, g3⟩
 ·have hl' : (l : List Int) = [] := hl
  subst hl'
  refine (hS.none a' 0 w).mono fun e' w' ⟨he, hw⟩ => ?_
  subst he; subst hw
  refine hnext _ _ _ h ⟨Nat.le_refl _, jY.refl _, fun _ _ _ => rfl, F, fun _ => False, B1, fun y hy => hy, fun y hy => ⟨hF y hy, .inl hy⟩, fun y hy => ?_, fun y hy => hy.elim, ⟨#[], rfl, trivial⟩, ?_⟩
  ·rcases hy with hy | hy
   ·exact hy.elim
   ·exact ⟨(hB y (hd1 y hy).1).1, (hB y (hd1 y hy).1).2, .inl (hd1 y hy).1⟩
  ·rw [lent]
   refine Sep.one (Sep.one ?_)
   refine ⟨.inl rfl, zJ.mk rfl ?_, fun h => absurd qFg h⟩
   rw [qM]
   refine ⟨_, rfl, a', 0, ?_, .inl ⟨qFg, rfl⟩⟩
   show Value.slice a' 0 0 = Value.slice a' (srt []).length 0
   rw [qFh]; rfl
 ·have hlt : b < w.heap.size := by
   rcases Nat.lt_or_ge b w.heap.size with h' | h'
   ·exact h'
   ·rw [Array.getElem?_eq_none h'] at hb1; cases hb1
  have hsz1 : c <= arr.size := by
   have e1 : c * 1 <= arr.size := hsz
   omega
  have hlc' : (l : List Int).length <= c := hlc
  have hH : Holds (Value.int .i64) w b 0 (l : List Int).toArray := fun j hj => by
   have hj' : j < (l : List Int).length := by simpa using hj
   obtain ⟨vs, q1, q2⟩ := g3 j hj'
   rw [qM] at q2
   subst q2
   have q3 := q1 0 (by simp)
   have ej : j * Ty.sz (.int .i64) + 0 = 0 + j := by show j * 1 + 0 = 0 + j; omega
   rw [ej] at q3
   rw [qFj hj']
   refine ⟨q3, ?_⟩
   unfold World.frozen?
   rw [hb1]
   have := hfr.2 (0 + j) (by omega)
   simpa using this
  refine (hS.some b 0 c l w hH hlt (by omega)).mono fun e' w' ⟨he, n, os, hw⟩ => ?_
  subst he; subst hw
  have hsl := qFh (l : List Int)
  have hset : (srt (l : List Int)).toArray.size = (l : List Int).toArray.size := by simp [hsl]
  have hP2 := holds_putRow (Value.int .i64) (Sort.ahead w n) b 0 (l : List Int).toArray (srt (l : List Int)).toArray hH hset
  have hsp : (putRow (Value.int .i64) (Sort.ahead w n) b 0 (srt (l : List Int)).toArray).heap.size = w.heap.size := by rw [size_putRow]; rfl
  have hP3 := holds_grow (Value.int .i64) _ os b 0 _ (by rw [hsp]; exact hlt) hP2
  have hheap : ∀ y, y < w.heap.size -> (grow (putRow (Value.int .i64) (Sort.ahead w n) b 0 (srt (l : List Int)).toArray) os).heap[y]? = (w.heap.modify b (onCells (putCells (Value.int .i64) 0 (srt (l : List Int)).toArray)))[y]? := fun y hy => by
   rw [heap_grow_old _ _ (by rw [hsp]; exact hy)]; rfl
  have hkeep : ∀ y, y < w.heap.size -> y ≠ b -> (grow (putRow (Value.int .i64) (Sort.ahead w n) b 0 (srt (l : List Int)).toArray) os).heap[y]? = w.heap[y]? := fun y hy hne => by
   rw [hheap y hy, Array.getElem?_modify, if_neg (fun e => hne e.symm)]
  have hbb : (grow (putRow (Value.int .i64) (Sort.ahead w n) b 0 (srt (l : List Int)).toArray) os).heap[b]? = some (.cells (putCells (Value.int .i64) 0 (srt (l : List Int)).toArray arr) e fr) := by
   rw [hheap b hlt, Array.getElem?_modify, if_pos rfl, hb1]; rfl
  have hgs : w.heap.size <= (grow (putRow (Value.int .i64) (Sort.ahead w n) b 0 (srt (l : List Int)).toArray) os).heap.size := by rw [size_grow, hsp]; omega
  refine hnext _ _ _ h ⟨hgs, ⟨rfl, rfl, rfl⟩, fun y hy hnB => hkeep y hy (fun e => hnB (e ▸ (hd1 _ hBb).1)), F, fun _ => False, B1, fun y hy => hy, fun y hy => ⟨Nat.lt_of_lt_of_le (hF y hy) hgs, .inl hy⟩, fun y hy => ?_, fun y hy => hy.elim, ⟨#[], rfl, trivial⟩, ?_⟩
  ·rcases hy with hy | hy
   ·exact hy.elim
   ·exact ⟨(hB y (hd1 y hy).1).1, Nat.lt_of_lt_of_le (hB y (hd1 y hy).1).2 hgs, .inl (hd1 y hy).1⟩
  ·rw [lent]
   refine Sep.one (Sep.one ?_)
   refine ⟨.inl rfl, zJ.mk rfl ?_, fun _ => ⟨b, _, _, rfl⟩⟩
   rw [qM]
   refine ⟨_, rfl, some ⟨b, 0, none⟩, c, ?_, .inr ⟨b, _, fr, rfl, hbb, ?_, ?_, ?_, hBb, Bs, ?_, ?_, ?_⟩⟩
   ·show Value.slice _ (l : List Int).length c = Value.slice _ (srt (l : List Int)).length c
    rw [hsl]
   ·show qBN (putCells (Value.int .i64) 0 (srt (l : List Int)).toArray arr).size fr
    rw [show (putCells (Value.int .i64) 0 (srt (l : List Int)).toArray arr).size = arr.size from by simp [putCells]]; exact hfr
   ·rw [show (putCells (Value.int .i64) 0 (srt (l : List Int)).toArray arr).size = arr.size from by simp [putCells]]; exact hsz
   ·show (srt (l : List Int)).length <= c
    rw [hsl]; exact hlc'
   ·intro i x hi hx
    exact g1 i x (by have : i < (srt (l : List Int)).length := hi; rw [hsl] at this; exact this) hx
   ·intro i j x hi hj hx hx'
    exact g2 i j x (by have : i < (srt (l : List Int)).length := hi; rw [hsl] at this; exact this) (by have : j < (srt (l : List Int)).length := hj; rw [hsl] at this; exact this) hx hx'
   ·intro i hi
    have hi' : i < (srt (l : List Int)).length := hi
    have q := (hP3 i (by simpa using hi')).1
    rw [qFj hi'] at q
    refine ⟨[.int .i64 (srt (l : List Int))[i]], ?_, by show qM _ _ (.int .i64) _ _ _ _; rw [qM]⟩
    intro j hj
    obtain rfl : j = 0 := by simpa using hj
    have ej : i * Ty.sz (.int .i64) + 0 = 0 + i := by show i * 1 + 0 = 0 + i; omega
    rw [ej]; exact q
theorem qMW {C : Ctx} {sid : FuncId} (hf : C.fs sid = none) {A : List TS} {u : Nat -> VA A -> (RES -> Prop) -> Prop} (h0 : ∀ v K, u 0 v K -> False) (h : ∀ n v K, u (n + 1) v K = qHS (qAu A v) K) :
  ∀ n v K, u n v K -> callM C (qIJ sid) n sid (qAu A v) K
 | 0, v, K, hu => (h0 v K hu).elim
 | n + 1, v, K, hu => by
  rw [h] at hu
  unfold callM
  show (match C.fs sid with | none => qIJ sid sid (qAu A v) K | some fn => _)
  rw [hf]
  exact ⟨rfl, hu⟩
def qJB (eid : TypeId) (args : List SV) (K : RES -> Prop) : Prop := match args with
 | [.c (.emp e (.int .i64)), .c (.int .i64 n)] => match Nat.beq e eid with
  | true => grd (decide (0 <= n) && decide (n <= 1099511627776)) (K ⟨.c (.row ⟨e, .int .i64, [], 99, none, []⟩), []⟩)
  | false => False
 | _ => False
def qMm (gid : FuncId) (eid : TypeId) : CallF := fun f args K => f = gid /\ qJB eid args K
theorem qH7 (gid : FuncId) (eid : TypeId) : CallF.Mono (qMm gid eid) := fun f a K K' hK h => by
 refine ⟨h.1, ?_⟩
 have h2 := h.2
 unfold qJB at h2 ⊢
 split at h2
 ·split at h2
  ·exact qAl (fun hh => hK _ hh) h2
  ·exact h2.elim
 ·exact h2.elim
structure qKm (P : Program) (gid : FuncId) (eid : TypeId) : Prop where
 room : ∀ (a : Option Addr) (w : World), Calls P gid #[.slice a 0 0, .int .i64 0] w fun e w' => e = .returned (.slice a 0 0) /\ w' = w
 grow : ∀ (a : Option Addr) (n : Nat) (w : World), 0 < n -> n <= 1099511627776 -> Calls P gid #[.slice a 0 0, .int .i64 (n : Int)] w fun e w' =>
  ∃ (c : Nat) (arr : Array Value), e = .returned (.slice (some ⟨w.heap.size, 0, none⟩) 0 c) /\ c <= arr.size /\ w' = w.drew.alloc (.cells arr eid)
theorem qKS {P : Program} {C : Ctx} {gid : FuncId} {eid : TypeId} (hS : qKm P gid eid) (hmod : (C.fi gid).modes = [3]) {fn : Func} (hP : P.funcs[gid]? = Option.some fn) (hn : (fn.name == "runtime.NumGoroutine") = false) (hb : fn.body.isSome = true) : kS P C (qMm gid eid) := by
 rintro f args K ⟨rfl, h⟩ hsmall vs w F B htab hs hF hB o a next Q hnext
 unfold qJB at h
 split at h
 rotate_left
 ·exact h.elim
 rename_i e n
 split at h
 rotate_left
 ·exact h.elim
 rename_i hbe
 obtain rfl : e = eid := Nat.eq_of_beq_eq_true hbe
 obtain ⟨hg, hk⟩ := qFi h
 rw [Bool.and_eq_true, decide_eq_true_eq, decide_eq_true_eq] at hg
 obtain ⟨v, u, rfl⟩ : ∃ v u, vs = [v, u] := by
  match vs, hs with
  | [v, u], _ => exact ⟨v, u, rfl⟩
  | [], hs => exact hs.elim
  | [v], hs => obtain ⟨_, _, _, _, _, h⟩ := hs; exact h.elim
  | v :: u :: x :: r, hs => obtain ⟨_, _, _, _, _, _, _, _, _, _, h⟩ := hs; exact h.elim
 obtain ⟨B1, B2, hd1, hd2, hv, B3, B4, hd3, hd4, hu, _⟩ := hs
 obtain ⟨a', rfl⟩ : ∃ a', v = .slice a' 0 0 := hv.2
 have hu' : u = .int .i64 n := hu.2
 subst hu'
 have hrun : (callFunc f [Value.slice a' 0 0, Value.int .i64 n].toArray).run P w = .ok (.enter f [Value.slice a' 0 0, Value.int .i64 n].toArray) w := by
  unfold callFunc
  obtain ⟨c, hc⟩ := Option.isSome_iff_exists.1 hb
  simp only [Sem.run_bind, program, Sem.run, Result.andThen_ok, hP, hn, Bool.false_eq_true, if_false, hc, Option.isNone_some]
  rfl
 rw [hrun, Oper.upon_enter]
 have lent : zH (C.fi f).modes [Value.slice a' 0 0, Value.int .i64 n] = [] := by rw [hmod]; rfl
 by_cases h0 : n = 0
 ·subst h0
  refine (hS.room a' w).mono fun e' w' ⟨he, hw⟩ => ?_
  subst he; subst hw
  refine hnext _ _ _ hk ⟨Nat.le_refl _, jY.refl _, fun _ _ _ => rfl, F, fun _ => False, fun _ => False, fun y hy => hy, fun y hy => ⟨hF y hy, .inl hy⟩, fun y hy => hy.elim (fun h => h.elim) (fun h => h.elim), fun y hy => hy.elim, ?_, ?_⟩
  ·refine ⟨.inl rfl, zJ.mk rfl ?_, fun h => absurd rfl h⟩
   rw [qM]
   exact ⟨_, rfl, a', 0, rfl, .inl ⟨rfl, rfl⟩⟩
  ·rw [lent]; trivial
 ·obtain ⟨k, rfl⟩ : ∃ k : Nat, n = k := ⟨n.toNat, by omega⟩
  refine (hS.grow a' k w (by omega) (by omega)).mono fun e' w' ⟨c, arr, he, hc, hw⟩ => ?_
  subst he; subst hw
  have hh : (w.drew.alloc (.cells arr e)).heap = w.heap.push (.cells arr e) := rfl
  have hsz : (w.drew.alloc (.cells arr e)).heap.size = w.heap.size + 1 := by rw [hh, Array.size_push]
  have hold : ∀ y, y < w.heap.size -> (w.drew.alloc (.cells arr e)).heap[y]? = w.heap[y]? := fun y hy => by
   rw [hh, Array.getElem?_push, if_neg (by omega)]
  have hnew : (w.drew.alloc (.cells arr e)).heap[w.heap.size]? = some (.cells arr e) := by rw [hh, Array.getElem?_push, if_pos rfl]
  refine hnext _ _ _ hk ⟨by omega, ⟨rfl, rfl, rfl⟩, fun y hy _ => hold y hy, F, fun y => y = w.heap.size, fun _ => False, fun y hy => hy, fun y hy => ⟨by have := hF y hy; omega, .inl hy⟩, fun y hy => ?_, fun y _ hy => hy, ?_, ?_⟩
  ·rcases hy with rfl | hy
   ·exact ⟨fun hf => by have := hF _ hf; omega, by omega, .inr (Nat.le_refl _)⟩
   ·exact hy.elim
  ·refine ⟨.inl rfl, zJ.mk rfl ?_, fun h => absurd rfl h⟩
   rw [qM]
   refine ⟨_, rfl, some ⟨w.heap.size, 0, none⟩, c, rfl, .inr ⟨w.heap.size, arr, (0, 0), rfl, hnew, ⟨Nat.le_refl _, fun o _ hh => by omega⟩, ?_, Nat.zero_le _, rfl, fun _ _ => False, fun i x hi => absurd hi (by simp), fun i j x hi => absurd hi (by simp), fun i hi => absurd hi (by simp)⟩⟩
   show c * 1 <= arr.size
   omega
  ·rw [lent]; trivial
theorem qEe {z : Array Value} (n : Nat) (h : z.size = 1) : (Builtin.zeroCells z n).size = n := by simp [Builtin.zeroCells, h]
def qI5 (i : Option TypeInfo) : Bool := match i with
 | some i => match i.zero with
  | some z => Nat.beq i.size 1 && Nat.ble i.bytes 64 && Nat.beq z.cells.size 1
  | none => false
 | none => false
theorem qJA {P : Program} {ρ : Go.Shelf.Ren} (L : Go.Proofs.Lays8.n4 P ρ) {gid : FuncId} {eid : TypeId} (hg : ρ.f 4 = gid) (he : ρ.t 25 = eid) (hone : qI5 (P.info? eid) = true) : qKm P gid eid := by
 obtain ⟨i0, z, hi, hz, hs, hb, hzc⟩ : ∃ i0 z, P.info? eid = some i0 /\ i0.zero = some z /\ i0.size = 1 /\ i0.bytes <= 64 /\ z.cells.size = 1 := by
  unfold qI5 at hone
  split at hone
  ·rename_i i0 hi
   split at hone
   ·rename_i z hz
    rw [Bool.and_eq_true, Bool.and_eq_true] at hone
    exact ⟨i0, z, hi, hz, Nat.eq_of_beq_eq_true hone.1.1, Nat.le_of_ble_eq_true hone.1.2, Nat.eq_of_beq_eq_true hone.2⟩
   ·cases hone
  ·cases hone
 subst hg; subst he
 refine ⟨fun a w => Go.Proofs.Any8.slices_Grow_room L a 0 0 0 w (Nat.le_refl _) (by omega) (by omega) (by omega), fun a n w h0 h1 => ?_⟩
 refine (Go.Proofs.Any8.slices_Grow_grow L i0 z hi hz (by omega) a 0 0 n [] w (Nat.le_refl _) (by omega) ?_ (by omega) (by simp) (fun _ => rfl) (fun _ _ j v hv => by simp at hv)).mono fun e w' ⟨he, hw⟩ => ⟨_, _, he, ?_, hw⟩
 ·have : (0 + n) * i0.bytes <= (0 + n) * 64 := Nat.mul_le_mul_left _ hb
  omega
 ·simp only [Array.size_append, qEe _ hzc, List.size_toArray, List.length_nil]
  omega
def qMz (A B : CallF) : CallF := fun f a K => A f a K \/ B f a K
theorem qIk {A B : CallF} (hA : CallF.Mono A) (hB : CallF.Mono B) : CallF.Mono (qMz A B) := fun f a K K' hK h => h.imp (hA f a K K' hK) (hB f a K K' hK)
theorem qK2 {P : Program} {C : Ctx} {A B : CallF} (hA : kS P C A) (hB : kS P C B) : kS P C (qMz A B) := fun f args K h => h.elim (hA f args K) (hB f args K)
theorem qHg {C : Ctx} {X0 : CallF} {g : FuncId} (hf : C.fs g = none) {B : List SV -> (RES -> Prop) -> Prop} (hB : ∀ args K, B args K -> X0 g args K) {A : List TS} {u : Nat -> VA A -> (RES -> Prop) -> Prop} (h0 : ∀ v K, u 0 v K -> False) (h : ∀ n v K, u (n + 1) v K = B (qAu A v) K) :
  ∀ n v K, u n v K -> callM C X0 n g (qAu A v) K
 | 0, v, K, hu => (h0 v K hu).elim
 | n + 1, v, K, hu => by
  rw [h] at hu
  unfold callM
  show (match C.fs g with | none => X0 g (qAu A v) K | some fn => _)
  rw [hf]
  exact hB _ _ hu
end Go.Vsi
end
