/- A machine on plain data for the code of the program, and what it means in memory. No statement is proved here. -/
import Derived.Test.YtaeadfaldglniaaGreatDoorM2
import Derived.Laws.Cover3
import Derived.SizedLaws
import Derived.ProofKit
set_option linter.unusedVariables false
set_option linter.unusedSimpArgs false

section
namespace Go.Vsi
def Sep {α β : Type} (R : α -> (Nat -> Prop) -> β -> Prop) : List α -> (Nat -> Prop) -> List β -> Prop
 | [], _, [] => True
 | a :: l, B, b :: r => ∃ B1 B2, (∀ x, B1 x -> B x /\ ¬ B2 x) /\ (∀ x, B2 x -> B x) /\ R a B1 b /\ Sep R l B2 r
 | _, _, _ => False
section
variable {α β : Type} {R S : α -> (Nat -> Prop) -> β -> Prop}
theorem Sep.length : ∀ {l : List α} {B : Nat -> Prop} {r : List β}, Sep R l B r -> l.length = r.length
 | [], _, [], _ => rfl
 | _ :: _, _, _ :: _, h => by obtain ⟨_, _, _, _, _, h⟩ := h; simp [Sep.length h]
theorem Sep.foot : ∀ {l : List α} {B B' : Nat -> Prop} {r : List β}, (∀ y, B y -> B' y) -> Sep R l B r -> Sep R l B' r
 | [], _, _, [], _, _ => trivial
 | _ :: _, _, _, _ :: _, hB, h => by
  obtain ⟨B1, B2, h1, h2, h3, h4⟩ := h
  exact ⟨B1, B2, fun x hx => ⟨hB _ (h1 x hx).1, (h1 x hx).2⟩, fun x hx => hB _ (h2 x hx), h3, h4⟩
theorem Sep.imp : ∀ {l : List α} {B : Nat -> Prop} {r : List β}, (∀ a C b, (∀ y, C y -> B y) -> R a C b -> S a C b) -> Sep R l B r -> Sep S l B r
 | [], _, [], _, _ => trivial
 | _ :: _, _, _ :: _, hi, h => by
  obtain ⟨B1, B2, h1, h2, h3, h4⟩ := h
  exact ⟨B1, B2, h1, h2, hi _ _ _ (fun y hy => (h1 y hy).1) h3, Sep.imp (fun a C b hC => hi a C b fun y hy => h2 y (hC y hy)) h4⟩
theorem Sep.impMem : ∀ {l : List α} {B : Nat -> Prop} {r : List β}, (∀ a C b, a ∈ l -> (∀ y, C y -> B y) -> R a C b -> S a C b) -> Sep R l B r -> Sep S l B r
 | [], _, [], _, _ => trivial
 | _ :: _, _, _ :: _, hi, h => by
  obtain ⟨B1, B2, h1, h2, h3, h4⟩ := h
  exact ⟨B1, B2, h1, h2, hi _ _ _ List.mem_cons_self (fun y hy => (h1 y hy).1) h3, Sep.impMem (fun a C b ha hC => hi a C b (List.mem_cons_of_mem _ ha) fun y hy => h2 y (hC y hy)) h4⟩
theorem Sep.append : ∀ {l l' : List α} {B C : Nat -> Prop} {r r' : List β}, Sep R l B r -> Sep R l' C r' -> (∀ y, B y -> ¬ C y) -> Sep R (l ++ l') (fun y => B y \/ C y) (r ++ r')
 | [], _, _, _, [], _, _, h, _ => h.foot fun y hy => .inr hy
 | _ :: _, _, _, _, _ :: _, _, h, h', hd => by
  obtain ⟨B1, B2, h1, h2, h3, h4⟩ := h
  exact ⟨B1, _, fun x hx => ⟨.inl (h1 x hx).1, fun hh => hh.elim (h1 x hx).2 (hd x (h1 x hx).1)⟩, fun x hx => hx.imp (h2 x) id, h3, Sep.append h4 h' fun y hy => hd y (h2 y hy)⟩
theorem Sep.all2 {T : α -> β -> Prop} (hT : ∀ a B b, R a B b -> T a b) : ∀ {l : List α} {B : Nat -> Prop} {r : List β}, Sep R l B r -> jC T l r
 | [], _, [], _ => trivial
 | _ :: _, _, _ :: _, h => by
  obtain ⟨B1, B2, h1, h2, h3, h4⟩ := h
  exact ⟨hT _ _ _ h3, Sep.all2 hT h4⟩
theorem Sep.one {a : α} {B : Nat -> Prop} {b : β} (h : R a B b) : Sep R [a] B [b] := ⟨B, fun _ => False, fun x hx => ⟨hx, fun h => h⟩, fun x hx => hx.elim, h, trivial⟩
theorem Sep.of_all2 {T : α -> β -> Prop} (hT : ∀ a b, T a b -> R a (fun _ => False) b) : ∀ {l : List α} {B : Nat -> Prop} {r : List β}, jC T l r -> Sep R l B r
 | [], _, [], _ => trivial
 | _ :: _, _, _ :: _, h => ⟨fun _ => False, fun _ => False, fun x hx => hx.elim, fun x hx => hx.elim, hT _ _ h.1, Sep.of_all2 hT h.2⟩
end
def CV.plain0 : CV -> Bool
 | .int .. | .bool _ | .str _ | .emp .. | .dat .. | .pdat .. | .kon _ => true
 | _ => false
def CV.plain : CV -> Bool
 | .fn _ _ _ cs => cs.all CV.plain0
 | c => c.plain0
def bare (F : Nat -> Prop) : Env := { F := F, on := fun _ => False, val := fun _ => undef, ty := fun _ => .unit, ft := fun _ _ => False, blk := fun _ => 0 }
theorem xV {c : CV} (h : c.plain0 = true) : (∀ d, c.says (CV.speaks d) = false) /\ (∀ b, c.says (CV.pts b) = false) := by
 cases c <;> simp [CV.plain0] at h <;> exact ⟨fun _ => rfl, fun _ => rfl⟩
theorem kP {c : CV} (h : c.plain = true) : (∀ d, c.says (CV.speaks d) = false) /\ (∀ b, c.says (CV.pts b) = false) := by
 cases c with
 | fn f sh n cs =>
  simp only [CV.plain, List.all_eq_true] at h
  refine ⟨fun d => ?_, fun b => ?_⟩
  ·rw [Bool.eq_false_iff]
   intro hh
   simp only [CV.says, CV.speaks, Bool.false_or, List.any_eq_true] at hh
   obtain ⟨x, hx, h1⟩ := hh
   have := (xV (h x hx)).1 d
   have h2 : CV.speaks d x = true := h1
   simp [CV.says, h2] at this
  ·rw [Bool.eq_false_iff]
   intro hh
   simp only [CV.says, Bool.or_eq_true, List.any_eq_true] at hh
   rcases hh with hh | ⟨x, hx, h1⟩
   ·simp only [CV.pts, List.any_eq_true] at hh
    obtain ⟨x, hx, h1⟩ := hh
    have := h x hx
    cases x <;> simp [CV.plain0] at this <;> simp at h1
   ·have := (xV (h x hx)).2 b
    simp [CV.says, h1] at this
 | _ => exact xV h
theorem yZ {ρ ρ' : Env} {w w' : World} {c : CV} (h : c.plain = true) (hF : ∀ y, ρ.F y -> ρ'.F y) (ha : qC ρ.F w w') : jM ρ ρ' w w' c := by
 obtain ⟨h1, h2⟩ := kP h
 exact ⟨hF, ha, fun d hd => by rw [h1 d] at hd; (cases hd), fun d hd => by
  have := wV hd; rw [h1 d] at this; (cases this), fun b hb => by rw [h2 b] at hb; (cases hb)⟩
def BC0 (F : Nat -> Prop) (w : World) : CV -> (Nat -> Prop) -> Value -> Prop
 | .row r, B, v => (r.hole = none \/ r.isMap = true) /\ zJ F w r B v /\ (r.l ≠ [] -> ∃ b n c, xP v b n c)
 | c, _, v => c.plain = true /\ CVR (bare F) w c v
def BC (F : Nat -> Prop) (w : World) : CV -> (Nat -> Prop) -> Value -> Prop
 | .boxr e cs, B, v => ∃ b arr fr B1, v = .pointer (some ⟨b, 0, none⟩) /\ w.heap[b]? = some (.cells arr e fr) /\ qBq arr.size fr /\ B b /\ (∀ y, B1 y -> B y /\ y ≠ b) /\ Sep (BC0 F w) cs B1 arr.toList
 | c, B, v => BC0 F w c B v
def BV (F : Nat -> Prop) (w : World) : SV -> (Nat -> Prop) -> Value -> Prop
 | .c x, B, v => BC F w x B v
 | .agg xs, B, v => ∃ arr, v = .agg arr /\ Sep (BC0 F w) xs B arr.toList
 | .clo f n cs, B, v => ∃ first caps, v = .func (.func f) first caps /\ first.size = n /\ Sep (BC F w) cs B (first.toList ++ caps.toList)
 | _, _, _ => False
def BR (F : Nat -> Prop) (w : World) : SV -> (Nat -> Prop) -> Value -> Prop
 | .tup vs, B, v => ∃ arr, v = .tuple arr /\ Sep (BV F w) vs B arr.toList
 | x, B, v => BV F w x B v
theorem qAp {F F' : Nat -> Prop} {w w' : World} (hF : ∀ y, F y -> F' y) (ha : qC F w w') {c : CV} {B : Nat -> Prop} {v : Value} (hB : qC B w w') (h : BC0 F w c B v) : BC0 F' w' c B v := by
 cases c with
 | row r => exact ⟨h.1, vO hF ha hB h.2.1, h.2.2⟩
 | _ => exact ⟨h.1, jP (yZ h.1 hF ha) h.2⟩
theorem qEL {F : Nat -> Prop} {w : World} {c : CV} {B B' : Nat -> Prop} {v : Value} (hB : ∀ y, B y -> B' y) (h : BC0 F w c B v) : BC0 F w c B' v := by
 cases c with
 | row r => exact ⟨h.1, qFY hB h.2.1, h.2.2⟩
 | _ => exact h
theorem qKJ {F : Nat -> Prop} {w : World} {c : CV} {B : Nat -> Prop} {v : Value} (h : BC0 F w c B v) : v.oneCell' = true := by
 cases c with
 | row r => exact qHX h.1 h.2.1
 | _ => exact qAc h.2
theorem qQt {F : Nat -> Prop} {w : World} {c : CV} {B : Nat -> Prop} {v : Value} (hn : ∀ e cs, c ≠ .boxr e cs) : BC F w c B v = BC0 F w c B v := by
 cases c <;> first | rfl | exact absurd rfl (hn _ _)
theorem qGT {F : Nat -> Prop} {w : World} {e : TypeId} {cs : List CV} {B : Nat -> Prop} {v : Value} (h : BC0 F w (.boxr e cs) B v) : False := by
 have := h.1; simp [CV.plain, CV.plain0] at this
theorem kG {F : Nat -> Prop} {w : World} {c : CV} {B : Nat -> Prop} {v : Value} (h : BC F w c B v) : (∃ e cs, c = .boxr e cs) \/ ((∀ e cs, c ≠ .boxr e cs) /\ BC0 F w c B v) := by
 by_cases hc : ∃ e cs, c = .boxr e cs
 ·exact .inl hc
 ·refine .inr ⟨fun e cs hh => hc ⟨e, cs, hh⟩, ?_⟩
  rwa [qQt fun e cs hh => hc ⟨e, cs, hh⟩] at h
theorem kD {F : Nat -> Prop} {w : World} {c : CV} {B : Nat -> Prop} {v : Value} (h : BC0 F w c B v) : BC F w c B v := by
 rw [qQt fun e cs hh => by subst hh; exact qGT h]; exact h
theorem qBQ {F F' : Nat -> Prop} {w w' : World} (hF : ∀ y, F y -> F' y) (ha : qC F w w') {c : CV} {B : Nat -> Prop} {v : Value} (hB : qC B w w') (h : BC F w c B v) : BC F' w' c B v := by
 rcases kG h with ⟨e, cs, rfl⟩ | ⟨hn, h⟩
 ·obtain ⟨b, arr, fr, B1, h1, h2, h3, h4, h5, h6⟩ := h
  exact ⟨b, arr, fr, B1, h1, hB _ _ h4 h2, h3, h4, h5, h6.imp fun c C v hC => qAp hF ha (hB.mono fun y hy => (h5 y (hC y hy)).1)⟩
 ·exact kD (qAp hF ha hB h)
theorem qBP {F F' : Nat -> Prop} {w w' : World} (hF : ∀ y, F y -> F' y) (ha : qC F w w') {c : SV} {B : Nat -> Prop} {v : Value} (hB : qC B w w') (h : BV F w c B v) : BV F' w' c B v := by
 cases c with
 | c x => exact qBQ (c := x) hF ha hB h
 | agg xs =>
  obtain ⟨arr, h1, h2⟩ := h
  exact ⟨arr, h1, h2.imp fun c C v hC => qAp hF ha (hB.mono hC)⟩
 | clo f n cs =>
  obtain ⟨first, caps, h1, h2, h3⟩ := h
  exact ⟨first, caps, h1, h2, h3.imp fun c C v hC => qBQ hF ha (hB.mono hC)⟩
 | undef => exact h
 | tup _ => exact h
theorem qNa {F F' : Nat -> Prop} {w w' : World} (hF : ∀ y, F y -> F' y) (ha : qC F w w') {c : SV} {B : Nat -> Prop} {v : Value} (hB : qC B w w') (h : BR F w c B v) : BR F' w' c B v := by
 cases c with
 | tup vs =>
  obtain ⟨arr, h1, h2⟩ := h
  exact ⟨arr, h1, h2.imp fun c C v hC => qBP hF ha (hB.mono hC)⟩
 | undef => exact h
 | c x => exact qBP (c := .c x) hF ha hB h
 | agg xs => exact qBP (c := .agg xs) hF ha hB h
 | clo f n cs => exact qBP (c := .clo f n cs) hF ha hB h
def qIx : Value -> List Value
 | .func _ first caps => first.toList ++ caps.toList
 | _ => []
def jZ : List Nat -> List Value -> List (List Value)
 | _, [] => []
 | ms, v :: r => if ms.headD 0 = 1 then v.cells.toList :: jZ (ms.drop 1) r else if ms.headD 0 = 4 then qIx v :: jZ (ms.drop 1) r else jZ (ms.drop 1) r
structure qNm (F B : Nat -> Prop) (w w' : World) (ms : List Nat) (vs : List Value) (r : RES) (v : Value) : Prop where
 size : w.heap.size <= w'.heap.size
 io : zD w w'
 keep : ∀ y, y < w.heap.size -> ¬ B y -> w'.heap[y]? = w.heap[y]?
 mem : ∃ F' B1 B2, (∀ y, F y -> F' y) /\ (∀ y, F' y -> y < w'.heap.size /\ (F y \/ B y \/ w.heap.size <= y)) /\ (∀ y, B1 y \/ B2 y -> ¬ F' y /\ y < w'.heap.size /\ (B y \/ w.heap.size <= y)) /\ (∀ y, B1 y -> ¬ B2 y) /\
  BR F' w' r.ret B1 v /\ Sep (Sep (BC F' w')) r.outs B2 (jZ ms vs)
def wB (P : Program) (C : Ctx) (call : CallF) : Prop := ∀ f args K, call f args K -> vL args = true -> ∀ (vs : List Value) (w : World) (F B : Nat -> Prop), TabOK F w -> Sep (BV F w) args B vs ->
 (∀ y, F y -> y < w.heap.size) -> (∀ y, B y -> ¬ F y /\ y < w.heap.size) -> ∀ (o : Oper) (a : Act) (next : Act -> World -> Prop) (Q : Exit -> Act -> World -> Prop),
 (∀ v r w', K r -> qNm F B w w' (C.fi f).modes vs r v -> next (a.put o.dst v) w') -> o.upon P a next Q ((callFunc f vs.toArray).run P w)
def qP4 (n : Next) (v : Value) : Prop := n = .value v \/ (n = .skip /\ v = undef)
section
variable {φ : Fix} {ρ : Env} {st : St} {a : Act} {w : World} {P : Program} {C : Ctx}
theorem qEM {o : Oper} {n : Next} {v : Value} {w' : World} {next : Act -> World -> Prop} {Q : Exit -> Act -> World -> Prop} (h : (execOp a.eval o).run P w = .ok n w') (he : qP4 n v) (hn : next (a.put o.dst v) w') : o.wp P a w next Q := by
 unfold Oper.wp
 rw [h]
 rcases he with rfl | ⟨rfl, rfl⟩
 ·exact hn
 ·exact hn
def qAt (φ : Fix) (K : St -> Prop) (a : Act) (w : World) : Prop := ∃ ρ st, Rep φ ρ st a w /\ K st
theorem qAt.imp {φ : Fix} {K K' : St -> Prop} {a : Act} {w : World} (h : ∀ s, K s -> K' s) (ha : qAt φ K a w) : qAt φ K' a w := by
 obtain ⟨ρ, st, h1, h2⟩ := ha; exact ⟨ρ, st, h1, h _ h2⟩
def qPT (P : Program) (C : Ctx) (φ : Fix) (o : Oper) (a : Act) (w : World) (K : St -> Prop) : Prop :=
 ∃ n v w', (execOp a.eval o).run P w = .ok n w' /\ qP4 n v /\ qAt φ K (a.put o.dst v) w' /\ (Oper.kd C o ≠ .eff -> w' = w) /\ (Oper.kd C o = .blind -> ∀ w1, (execOp a.eval o).run P w1 = .ok n w1) /\
  (Oper.ld o = true -> ∀ w1, jO w w1 -> (execOp a.eval o).run P w1 = .ok n w1) /\ (Oper.al C o = true -> jO w w')
theorem qK8 (hC : jK P C) (h : Rep φ ρ st a w) {o : Oper} {r : R1} (hs : jY C st o = some r) (hg : r.g = true) (hl : Oper.ld o = true) {n : Next} {w' : World} (hr : (execOp a.eval o).run P w = .ok n w') :
  ∀ w1, jO w w1 -> (execOp a.eval o).run P w1 = .ok n w1 := by
 obtain ⟨dst, op, ty, pos, af, gd⟩ := o
 cases op with
 | load t x =>
  simp only [jY] at hs
  split at hs
  ·rename_i p hx
   have fin : ∀ z, (∀ w1, jO w w1 -> (Instr.loadAt t (a.eval x)).run P w1 = .ok z w1) -> ∀ w1, jO w w1 -> (execOp a.eval { dst := dst, op := .load t x, type := ty, pos := pos, after := af, guard := gd }).run P w1 = .ok n w1 := fun z hz => by
    have e : ∀ w1, jO w w1 -> (execOp a.eval { dst := dst, op := .load t x, type := ty, pos := pos, after := af, guard := gd }).run P w1 = .ok (.value z) w1 := fun w1 g => by
     show (do pure (Next.value (<- Instr.loadAt t (a.eval x))) : Sem Next).run P w1 = _
     simp only [Sem.run_bind, hz w1 g, Result.andThen_ok, Sem.run_pure]
    rw [e w (jO.refl w)] at hr
    simp only [Result.ok.injEq] at hr
    rw [<- hr.1]
    exact e
   split at hs
   ·rename_i q hq
    obtain ⟨z, hz⟩ := (qHl hC h (qW h hx) hq hs hg).2
    exact fin z hz
   cases hv : qCa C st t p with
   | none => simp [hv] at hs
   | some v =>
    obtain ⟨z, hz⟩ := (qDD hC h (qW h hx) hv).2
    exact fin z hz
  ·cases hs
 | _ => simp [Oper.ld] at hl
theorem qLu (hC : jK P C) {o : Oper} {st : St} {r : R1} (hs : jY C st o = some r) (hl : Oper.al C o = true) {n : Next} {a : Act} {w w' : World} (hr : (execOp a.eval o).run P w = .ok n w') : jO w w' := by
 obtain ⟨dst, op, ty, pos, af, gd⟩ := o
 cases op with
 | alloc t =>
  simp only [jY] at hs
  cases hi : C.ti t with
  | none => simp [hi] at hs
  | some i =>
   have hr' : (do pure (Next.value (<- Instr.alloc t true (.tuple #[]))) : Sem Next).run P w = .ok n w' := hr
   simp only [Sem.run_bind] at hr'
   obtain ⟨x, w2, h1, h2⟩ := xH hr'
   have := qGK hC hi h1
   simp only [Sem.run_pure, Result.ok.injEq] at h2
   rw [<- h2.2]; exact this
 | call c =>
  simp only [jY] at hs
  simp only [Oper.al] at hl
  split at hl
  ·rename_i g hc
   rw [hc] at hs
   cases hs
  ·cases hl
 | _ => simp [Oper.al] at hl
theorem qAg (hC : jK P C) (h : Rep φ ρ st a w) {o : Oper} (hd : ∀ s, o.dst = some s -> s < φ.N) {K : St -> Prop}
  (hp : match jY C st o with | some r => grd r.g (K (r.st.setO o.dst r.v)) | none => False) : qPT P C φ o a w K := by
 cases hs : jY C st o with
 | none => rw [hs] at hp; exact hp.elim
 | some r =>
  rw [hs] at hp
  simp only at hp
  cases hg : r.g with
  | false => rw [hg] at hp; exact hp.elim
  | true =>
   rw [hg] at hp
   have hK : K (r.st.setO o.dst r.v) := hp
   obtain ⟨ρ', w', h1, h2⟩ := qMq hC h hs hg
   have fin : ∀ n v, (execOp a.eval o).run P w = .ok n w' -> qP4 n v -> SVR ρ' w' r.v v -> qPT P C φ o a w K := fun n v hr he hv =>
    ⟨n, v, w', hr, he, ⟨ρ', _, h1.setO hd hv, hK⟩, fun hk => qKO hC h hs hg hk w w' n hr, fun hk => (qHP hC h hs hg hk w w' n hr).2, fun hl => qK8 hC h hs hg hl hr, fun hl => qLu hC hs hl hr⟩
   rcases h2 with ⟨x, h3, h4⟩ | ⟨h3, h4⟩
   ·exact fin _ _ h3 (.inl rfl) h4
   ·exact fin _ _ h3 (.inr ⟨rfl, rfl⟩) h4
theorem qK3 (hC : jK P C) (h : Rep φ ρ st a w) {dst : Option Tmp} {op : BinOp} {xt yt : TypeId} {x y : Operand} {ty : TypeId} {pos : String} {af : Array Edge} {gd : Option (Nat × Bool)} (hd : ∀ s, dst = some s -> s < φ.N)
  (hy : qJL y = true) (hop : op = .eql \/ op = .neq) {c : CV} (hx : opv st x = some (.c c)) {n m : Nat} (hn : qCy st c = some n) (hm : qJ3 C xt = some m) {z : (e : TypeId) × (t : Ty) × List t.T} (hz : xL st c = some z) {K : St -> Prop}
  (h1 : n = 0 -> K (st.setO dst (.c (.bool (op == .eql))))) (h2 : K (st.setO dst (.c (.bool (!(op == .eql)))))) : qPT P C φ { dst := dst, op := .binOp op xt x y yt, type := ty, pos := pos, after := af, guard := gd } a w K := by
 have hc : CVR ρ w c (a.eval x) := qW h hx
 obtain ⟨b, k, e1⟩ := qD5 h hc hn
 have ey : a.eval y = .slice none 0 0 := qHD hy
 obtain ⟨e, j, hu, _⟩ := qAH hC hm
 have hc0 : zQ ρ w c (a.eval x) := qBO (by intro f sh n cs hh; rw [hh] at hz; simp [xL] at hz) hc
 have hb : b = none -> n = 0 := by
  rintro rfl
  have hr := wW h hz hc0
  obtain ⟨A, k', e2, _, h3⟩ := hr
  rw [e1] at e2
  simp only [Value.slice.injEq] at e2
  obtain ⟨rfl, e3, _⟩ := e2
  rcases Nat.eq_zero_or_pos z.2.2.length with h0 | h0
  ·omega
  ·obtain ⟨b', _, _, h4, _⟩ := h3 0 h0
   cases h4
 have hrun : ∀ w1, (execOp a.eval { dst := dst, op := .binOp op xt x y yt, type := ty, pos := pos, after := af, guard := gd }).run P w1 = .ok (.value (.bool (if op == .eql then b.isNone else !b.isNone))) w1 := by
  intro w1
  have e4 : execOp a.eval { dst := dst, op := .binOp op xt x y yt, type := ty, pos := pos, after := af, guard := gd } = (do pure (Next.value (<- (do eqGuard op xt x y (a.eval x) (a.eval y); binOp op xt (a.eval x) (a.eval y))))) := rfl
  rw [e4, e1, ey]
  have e5 : (do eqGuard op xt x y (.slice b n k) (.slice none 0 0); binOp op xt (.slice b n k) (.slice none 0 0) : Sem Value).run P w1 = .ok (.bool (if op == .eql then b.isNone else !b.isNone)) w1 := by
   rw [Sem.run_bind, qCG (by simp), Result.andThen_ok]
   rcases hop with rfl | rfl
   ·simp only [binOp, Sem.run_bind, run_equal_slice_nil w1 xt e b n k hu]; rfl
   ·simp only [binOp, Sem.run_bind, run_equal_slice_nil w1 xt e b n k hu]; rfl
  rw [Sem.run_bind, e5]
  rfl
 refine ⟨_, .bool (if op == .eql then b.isNone else !b.isNone), w, hrun w, .inl rfl, ?_, fun _ => rfl, fun _ => hrun, fun hl => by simp [Oper.ld] at hl, fun hl => by simp [Oper.al] at hl⟩
 cases b with
 | none =>
  refine ⟨ρ, _, h.setO hd (v := .c (.bool (op == .eql))) ?_, h1 (hb rfl)⟩
  show _ = _
  cases op == .eql <;> rfl
 | some ad =>
  refine ⟨ρ, _, h.setO hd (v := .c (.bool (!(op == .eql)))) ?_, h2⟩
  show _ = _
  cases op == .eql <;> rfl
theorem qEt {s : List UInt8} {q : Nat} (hq : q < s.length) (ha : (List.getD s q 0).toNat < 128) : Utf8.decode ⟨⟨s⟩⟩ q = ((List.getD s q 0).toNat, 1) := by
 have hget : ((⟨⟨s⟩⟩ : ByteArray)[q]'hq) = List.getD s q 0 := by
  rw [List.getD_eq_getElem?_getD, List.getElem?_eq_getElem hq]; rfl
 have := decode_ascii ⟨⟨s⟩⟩ q hq (by rw [hget]; exact ha)
 rw [this, hget]
theorem qJq (h : Rep φ ρ st a w) {dst : Option Tmp} {it : Operand} {ty : TypeId} {pos : String} {af : Array Edge} {gd : Option (Nat × Bool)} (hd : ∀ s, dst = some s -> s < φ.N) {b : Nat} (hx : opv st it = some (.c (.pbox b 0))) {x : Box} (hb : qL b st.boxes = some x) {s : List UInt8} {p : Int}
  (hcs : x.cs = [.str s, .int .i64 p]) (hxe : x.it = true /\ x.ro = false) {K : St -> Prop}
  (hk : if decide (p < (s.length : Int)) = true then grd (decide ((List.getD s p.toNat 0).toNat < 128)) (K (({ st with boxes := put b { x with cs := [.str s, .int .i64 (p + 1)] } st.boxes } : St).setO dst (.tup [.c (.bool true), .c (.int .i64 p), .c (.int .i32 ((List.getD s p.toNat 0).toNat : Int))]))) else K (st.setO dst (.tup [.c (.bool false)]))) :
  qPT P C φ { dst := dst, op := .next it true, type := ty, pos := pos, after := af, guard := gd } a w K := by
 have hit : a.eval it = .pointer (some ⟨ρ.blk b, 0, none⟩) := qW h hx
 obtain ⟨arr, fr, h1, h2, h3⟩ := h.boxes b x hb
 rw [hcs] at h3
 rw [hxe.1] at h1
 obtain ⟨s', q, h1, rfl⟩ := h1
 have e1 : (Value.string ⟨⟨s'⟩⟩) = .string ⟨⟨s⟩⟩ := h3.1
 have e2 : (Value.int .i64 (q : Int)) = .int .i64 p := h3.2.1
 simp only [Value.string.injEq, ByteArray.mk.injEq, Array.mk.injEq] at e1
 simp only [Value.int.injEq, true_and] at e2
 subst e1
 subst e2
 have hblt : ρ.blk b < w.heap.size := by
  rcases Nat.lt_or_ge (ρ.blk b) w.heap.size with h' | h'
  ·exact h'
  ·rw [Array.getElem?_eq_none h'] at h1; cases h1
 have hrun0 : (execOp a.eval { dst := dst, op := .next it true, type := ty, pos := pos, after := af, guard := gd }) = (do pure (Next.value (<- Instr.next (a.eval it) true ty))) := rfl
 have ssz : (⟨⟨s'⟩⟩ : ByteArray).size = s'.length := rfl
 by_cases hp : q < s'.length
 ·rw [if_pos (by simp; exact hp), Int.toNat_natCast] at hk
  obtain ⟨ha, hk⟩ : decide ((List.getD s' q 0).toNat < 128) = true /\ K (({ st with boxes := put b { x with cs := [.str s', .int .i64 ((q : Int) + 1)] } st.boxes } : St).setO dst (.tup [.c (.bool true), .c (.int .i64 (q : Int)), .c (.int .i32 ((List.getD s' q 0).toNat : Int))])) := by
   cases hh : decide ((List.getD s' q 0).toNat < 128) with
   | true => rw [hh] at hk; exact ⟨rfl, hk⟩
   | false => rw [hh] at hk; exact hk.elim
  rw [decide_eq_true_eq] at ha
  have hdec := qEt (s := s') hp ha
  refine ⟨.value (.tuple #[.bool true, .int .i64 (q : Int), .int .i32 ((List.getD s' q 0).toNat : Int)]), .tuple #[.bool true, .int .i64 (q : Int), .int .i32 ((List.getD s' q 0).toNat : Int)], { w with heap := w.heap.setIfInBounds (ρ.blk b) (.stringIter ⟨⟨s'⟩⟩ (q + 1)) }, ?_, .inl rfl, ?_, fun hh => absurd rfl hh, fun hh => by simp [Oper.kd] at hh, fun hh => by simp [Oper.ld] at hh, fun hh => by simp [Oper.al] at hh⟩
  ·rw [hrun0, hit]
   simp [Instr.next, getObj, setObj, Sem.run, h1, ssz, hp, hdec, goInt, Result.andThen]
  ·have hb2 := h.putBox (b := b) (x := { x with cs := [.str s', .int .i64 ((q : Int) + 1)] }) (w' := { w with heap := w.heap.setIfInBounds (ρ.blk b) (.stringIter ⟨⟨s'⟩⟩ (q + 1)) }) (arr := #[.string ⟨⟨s'⟩⟩, .int .i64 ((q + 1 : Nat) : Int)]) (fr := fr)
    (by simp) ⟨rfl, rfl, rfl⟩ (fun y _ hy => by show (w.heap.setIfInBounds (ρ.blk b) (.stringIter ⟨⟨s'⟩⟩ (q + 1)))[y]? = _; rw [Array.getElem?_setIfInBounds, if_neg (fun e : ρ.blk b = y => hy e.symm)]) ((h.bF b x hb).1 hxe.2) (fun d r hd => h.rb d r b x hd hb) (fun b' x' hb' hne => h.bsep b' b x' x hb' hb hne) (h.bF b x hb).2
    (by show xK x.it _ _ _ _; rw [hxe.1]; exact ⟨s', q + 1, by simp [Array.getElem?_setIfInBounds, hblt], rfl⟩) h2 ⟨rfl, rfl, trivial⟩
   exact ⟨ρ, _, hb2.setO hd (v := .tup [.c (.bool true), .c (.int .i64 (q : Int)), .c (.int .i32 ((List.getD s' q 0).toNat : Int))]) (show ∃ arr, _ = Value.tuple arr /\ jC (qEH ρ _) _ arr.toList from ⟨_, rfl, rfl, rfl, rfl, trivial⟩), hk⟩
 ·rw [if_neg (by simp; omega)] at hk
  refine ⟨.value (.tuple #[.bool false]), .tuple #[.bool false], w, ?_, .inl rfl, ?_, fun hh => absurd rfl hh, fun hh => by simp [Oper.kd] at hh, fun hh => by simp [Oper.ld] at hh, fun hh => by simp [Oper.al] at hh⟩
  ·rw [hrun0, hit]
   simp [Instr.next, getObj, Sem.run, h1, ssz, hp, Result.andThen]
  ·exact ⟨ρ, _, h.setO hd (v := .tup [.c (.bool false)]) (show ∃ arr, _ = Value.tuple arr /\ jC (qEH ρ w) _ arr.toList from ⟨_, rfl, rfl, trivial⟩), hk⟩
def xI (P : Program) (C : Ctx) (call : CallF) : Prop := ∀ {φ : Fix} {ρ : Env} {st : St} {a : Act} {w : World} {o : Oper} {c : Call} {K : St -> Prop}, Rep φ ρ st a w -> (∀ s, o.dst = some s -> s < φ.N) -> o.op = .call c -> (∀ b, c.callee ≠ .builtin b) -> qIE C call st o K -> ∀ Q, o.wp P a w (fun a' w' => (Oper.al C o = true -> jO w w') /\ qAt φ K a' w') Q
theorem qJ0 (hC : jK P C) {call : CallF} (hcall : xI P C call) (h : Rep φ ρ st a w) {o : Oper} (hd : ∀ s, o.dst = some s -> s < φ.N) {K : St -> Prop} (he : qIE C call st o K) :
  qPT P C φ o a w K \/ (Oper.kd C o = .eff /\ ∀ Q, o.wp P a w (fun a' w' => (Oper.al C o = true -> jO w w') /\ qAt φ K a' w') Q) := by
 obtain ⟨dst, op, ty, pos, af, gd⟩ := o
 cases op with
 | call c =>
  cases hc : c.callee with
  | builtin b =>
   simp only [qIE, hc] at he
   exact .inl (qAg hC h hd he)
  | value f =>
   refine .inr ⟨by simp only [Oper.kd, hc], hcall h hd rfl (by simp [hc]) he⟩
  | invoke r m =>
   refine .inr ⟨by simp only [Oper.kd, hc], hcall h hd rfl (by simp [hc]) he⟩
 | binOp op xt x y yt =>
  simp only [qIE] at he
  split at he
  ·rename_i hn
   split at he
   ·rename_i c hx
    split at he
    ·rename_i n m z h1 h2 h3
     exact .inl (qK3 hC h hd hn.1 hn.2 hx h1 h2 h3 he.1 he.2)
    ·exact he.elim
   ·exact he.elim
  ·exact .inl (qAg hC h hd he)
 | next it isS =>
  cases isS with
  | false => exact .inl (qAg hC h hd he)
  | true =>
   simp only [qIE] at he
   split at he
   ·rename_i b hx
    split at he
    ·rename_i x hb
     split at he
     ·rename_i s p hcs
      split at he
      ·rename_i hxe
       exact .inl (qJq h hd hx hb hcs hxe he)
      ·exact he.elim
     ·exact he.elim
    ·exact he.elim
   ·exact he.elim
 | _ => exact .inl (qAg hC h hd he)
theorem Rep.reset (h : Rep φ ρ st a w) {s : Nat} {v : SV} (hs : s < φ.N) (hv : SVR ρ w v (a.tmps.getD s undef)) : Rep φ ρ (st.set s v) a w :=
 { h with
  slots := fun i u hu => by
   simp only [St.set, qP] at hu
   by_cases e : i = s
   ·rw [if_pos e] at hu; simp only [Option.some.injEq] at hu; subst hu; subst e; exact ⟨hs, hv⟩
   ·rw [if_neg e] at hu; exact h.slots i u hu }
theorem Act.getD_of_lt {a : Act} {t : Nat} (h : t < a.tmps.size) : a.tmps[t]? = some (a.tmps.getD t undef) := by
 simp [Array.getD, h]
theorem qFH (hC : jK P C) {call : CallF} (h : Rep φ ρ st a w) {ops : Array Oper} (hds : ∀ (i : Nat) o s, ops[i]? = some o -> o.dst = some s -> s < φ.N) {i : Nat} {o : Oper} (hi : ops[i]? = some o) {K : St -> Prop} (he : evG C call ops st i K) :
  (Region.wanted o (yielded ops a.tmps) = true /\ ∃ st', Rep φ ρ st' a w /\ qIE C call st' o K) \/ (Region.wanted o (yielded ops a.tmps) = false /\ qAt φ K (a.put o.dst undef) w) := by
 unfold evG at he
 rw [hi] at he
 simp only at he
 cases hg : o.guard with
 | none =>
  rw [hg] at he
  exact .inl ⟨by simp [Region.wanted, hg], st, h, he⟩
 | some gw =>
  obtain ⟨g, want⟩ := gw
  rw [hg] at he
  simp only at he
  cases ht : (ops[g]?).bind (·.dst) with
  | none => rw [ht] at he; exact he.elim
  | some t =>
   rw [ht] at he
   simp only at he
   have htN : t < φ.N := by
    cases hog : ops[g]? with
    | none => simp [hog] at ht
    | some og => exact hds g og t hog (by simpa [hog] using ht)
   have hget : a.tmps[t]? = some (a.tmps.getD t undef) := Act.getD_of_lt (by rw [h.size]; exact htN)
   have hy : yielded ops a.tmps g = match a.tmps.getD t undef with | .bool b => some b | _ => none := by
    unfold yielded
    rw [ht]
    simp only [Option.bind_some, hget]
    cases a.tmps.getD t undef <;> rfl
   cases hl : qL t st.slots with
   | none => rw [hl] at he; exact he.elim
   | some v =>
    rw [hl] at he
    have hv := (h.slots t v hl).2
    have hw : Region.wanted o (yielded ops a.tmps) = (yielded ops a.tmps g == some want) := by simp [Region.wanted, hg]
    have dst : ∀ s, o.dst = some s -> s < φ.N := fun s hs => hds i o s hi hs
    cases v with
    | undef =>
     simp only at he
     have hv' : a.tmps.getD t undef = undef := hv
     refine .inr ⟨?_, ρ, _, h.setO dst (v := .undef) rfl, he⟩
     rw [hw, hy, hv']; rfl
    | c x =>
     cases x with
     | bool b =>
      simp only at he
      have hv' : a.tmps.getD t undef = .bool b := hv
      rw [hv'] at hy
      split at he
      ·rename_i hb
       subst hb
       exact .inl ⟨by rw [hw, hy]; simp, _, h.reset htN (by rw [hv']; rfl), he⟩
      ·rename_i hb
       refine .inr ⟨by rw [hw, hy]; simpa using hb, ρ, _, (h.reset (v := .c (.bool (!want))) htN ?_).setO dst (v := .undef) rfl, he⟩
       rw [hv']
       show Value.bool b = .bool (!want)
       congr 1
       cases b <;> cases want <;> simp_all
     | _ => exact he.elim
    | _ => exact he.elim
theorem qLO (hC : jK P C) {call : CallF} (hcall : xI P C call) (h : Rep φ ρ st a w) {ops : Array Oper} (hds : ∀ (i : Nat) o s, ops[i]? = some o -> o.dst = some s -> s < φ.N) {i : Nat} {K : St -> Prop} (he : evG C call ops st i K) {Q : Exit -> Act -> World -> Prop} :
  wpOp P ops Q i (fun a' w' => ((∀ o, ops[i]? = some o -> Oper.kd C o ≠ .eff) -> w' = w) /\ ((∀ o, ops[i]? = some o -> Oper.al C o = true) -> jO w w') /\ qAt φ K a' w') a w := by
 unfold wpOp
 cases hi : ops[i]? with
 | none =>
  unfold evG at he
  rw [hi] at he
  exact ⟨fun _ => rfl, fun _ => jO.refl w, ρ, st, h, he⟩
 | some o =>
  simp only
  rcases qFH hC h hds hi he with ⟨hw, st', h', he'⟩ | ⟨hw, ha⟩
  ·rw [if_pos hw]
   rcases qJ0 hC hcall h' (fun s hs => hds i o s hi hs) he' with ⟨n, v, w', h1, h2, h3, h4, _, _, h7⟩ | ⟨hk, hwp⟩
   ·exact .inl (qEM h1 h2 ⟨fun hh => h4 (hh o rfl), fun hh => h7 (hh o rfl), h3⟩)
   ·exact .inl (Oper.wp_mono (fun a' w' ha => ⟨fun hh => absurd hk (hh o rfl), fun hh => ha.1 (hh o rfl), ha.2⟩) (hwp Q))
  ·rw [if_neg (by simp [hw])]
   exact ⟨fun _ => by trivial, fun _ => jO.refl _, ha⟩
theorem qHL (hC : jK P C) {call : CallF} (hcall : xI P C call) {ops : Array Oper} {φ : Fix} (hds : ∀ (i : Nat) o s, ops[i]? = some o -> o.dst = some s -> s < φ.N) {K : St -> Prop} {Q : Exit -> Act -> World -> Prop} (hQ : ∀ a w, qAt φ K a w -> Q .normal a w) :
  ∀ (l : List Nat) {ρ : Env} {st : St} {a : Act} {w : World}, Rep φ ρ st a w -> qIs C call ops l st K -> wpOps P ops Q l a w
 | [], ρ, st, a, w, h, he => hQ a w ⟨ρ, st, h, he⟩
 | i :: l, ρ, st, a, w, h, he => by
  rw [wpOps_cons]
  refine wpOp_mono (fun a' w' ⟨_, _, ρ', st', h', he'⟩ => ?_) (qLO hC hcall h hds (K := fun s => qIs C call ops l s K) he)
  exact qHL hC hcall hds hQ l h' he'
def qEO (P : Program) (C : Ctx) (ops : Array Oper) (Q : Exit -> Act -> World -> Prop) : Nat -> Array Bool -> Act -> World -> Prop
 | 0, listed, a, w => Region.ready .any ops listed = [] /\ Q .normal a w
 | fuel + 1, listed, a, w =>
  (Region.ready .any ops listed = [] -> Q .normal a w) /\
  ∀ i ∈ Region.ready .any ops listed, wpOp P ops Q i (fun a' w' => ((∀ o, ops[i]? = some o -> Oper.kd C o ≠ .eff) -> w' = w) /\ ((∀ o, ops[i]? = some o -> Oper.al C o = true) -> jO w w') /\ qEO P C ops Q fuel (listed.setIfInBounds i true) a' w') a w
theorem qDp {ops : Array Oper} {Q : Exit -> Act -> World -> Prop} : ∀ (fuel : Nat) (listed : Array Bool) (a : Act) (w : World), qEO P C ops Q fuel listed a w -> wpAny P .any ops Q fuel listed a w
 | 0, _, _, _, h => h
 | fuel + 1, _, _, _, h => ⟨h.1, fun i hi => wpOp_mono (fun a' w' h' => qDp fuel _ a' w' h'.2.2) (h.2 i hi)⟩
def wG (P : Program) (ops : Array Oper) (T : World -> Prop) (o : Oper) (v : Value) (a : Act) : Prop :=
 (Region.wanted o (yielded ops a.tmps) = true /\ ∃ n, qP4 n v /\ ∀ w, T w -> (execOp a.eval o).run P w = .ok n w) \/
 (Region.wanted o (yielded ops a.tmps) = false /\ v = undef)
theorem wG.wpOp {ops : Array Oper} {T : World -> Prop} {i : Nat} {o : Oper} {v : Value} {Q : Exit -> Act -> World -> Prop} (hi : ops[i]? = some o) (hy : wG P ops T o v a) {K : Act -> World -> Prop} (hT : T w) (h : K (a.put o.dst v) w) : wpOp P ops Q i K a w := by
 unfold Go.wpOp
 simp only [hi]
 rcases hy with ⟨hw, n, hn, hv⟩ | ⟨hw, rfl⟩
 ·rw [if_pos hw]; exact .inl (qEM (hv w hT) hn h)
 ·rw [if_neg (by simp [hw])]; exact h
theorem wG.of_same {ops : Array Oper} {T : World -> Prop} {o : Oper} {v : Value} {a a' : Act} (hy : wG P ops T o v a) (he : execOp a'.eval o = execOp a.eval o)
  (hw : Region.wanted o (yielded ops a'.tmps) = Region.wanted o (yielded ops a.tmps)) : wG P ops T o v a' := by
 unfold wG at *
 rw [he, hw]
 exact hy
theorem qIJ {ops : Array Oper} {T : World -> Prop} {Q : Exit -> Act -> World -> Prop} {j : Nat} {oi oj : Oper} {v : Value} (hj : ops[j]? = some oj) (hap : oi.apart ops oj = true)
  (hsi : ∀ cs b, oi.op ≠ .select cs b) (hsj : ∀ cs b, oj.op ≠ .select cs b)
  (hQ : ∀ c a w, ¬ Q (.panic c) a w) {K : Act -> World -> Prop}
  (hy : wG P ops T oi v a) (h : wpOp P ops Q j K (a.put oi.dst v) w) :
  wpOp P ops Q j (fun a' w' => wG P ops T oi v a' /\ K (a'.put oi.dst v) w') a w := by
 obtain ⟨h1, h2, h3⟩ := Oper.apart_spec hap
 have keep : ∀ (a : Act), wG P ops T oi v a -> ∀ u, wG P ops T oi v (a.put oj.dst u) := fun a hy u =>
  hy.of_same (execOp_put oi hsi a oj.dst u h3) (wanted_put oi a oj.dst u h3)
 have keepD : ∀ d, wG P ops T oi v { a with defers := d :: a.defers } := fun d => hy.of_same rfl rfl
 unfold wpOp at *
 simp only [hj] at *
 rw [wanted_put oj a oi.dst v h1] at h
 split
 ·rename_i hw
  simp only [hw, if_true] at h
  rcases h with h | ⟨hasks, hlets⟩
  case inr => exact .inr ⟨by unfold Oper.asks at *; rw [execOp_put oj hsj a oi.dst v h1] at hasks; exact hasks, hlets⟩
  refine .inl ?_
  unfold Oper.wp at *
  rw [execOp_put oj hsj a oi.dst v h1] at h
  generalize (execOp a.eval oj).run P w = r at *
  cases r with
  | ok n w' =>
   cases n <;> simp only [Oper.upon] at h ⊢
   case value u => exact ⟨keep a hy u, by rw [<- Act.put_comm a v u h2]; exact h⟩
   case skip => exact ⟨keep a hy _, by rw [<- Act.put_comm a v undef h2]; exact h⟩
   case defer d =>
    refine ⟨keep _ (keepD d) _, ?_⟩
    rw [<- Act.put_comm _ v undef h2, <- Act.put_defers]
    exact h
   case enter f args =>
    refine Calls.mono h fun e w'' he => ?_
    cases e with
    | returned u => exact ⟨keep a hy u, by rw [<- Act.put_comm a v u h2]; exact he⟩
    | panicked c => exact absurd he (hQ _ _ _)
    | outgrown => exact he
   case row row args => exact Rows.mono h fun u w'' he => ⟨keep a hy u, by rw [<- Act.put_comm a v u h2]; exact he⟩
  | halt x w' =>
   cases x <;> simp only [Oper.upon] at h ⊢
   case panic u => exact absurd h (hQ _ _ _)
 ·rename_i hw
  simp only [hw] at h
  exact ⟨keep a hy _, by rw [<- Act.put_comm a v undef h2]; exact h⟩
def qBn (ops : Array Oper) (listed : Array Bool) : Prop := ∀ (k : Nat) o e, ops[k]? = some o -> listed.getD k false = true -> e ∈ o.after -> Region.binds .any e = true -> listed.getD e.on false = true
theorem qBn.none (ops : Array Oper) (n : Nat) : qBn ops (Array.replicate n false) := by
 intro k o e _ h
 simp [Array.getElem?_replicate] at h
 split at h <;> simp at h
theorem qCV {listed : Array Bool} {i : Nat} (h : listed.getD i true = false) : listed.getD i false = false := by
 simp only [Array.getD_eq_getD_getElem?] at *
 cases hh : listed[i]? with
 | none => simp [hh] at h
 | some b => simpa [hh] using h
theorem qBn.list {ops : Array Oper} {listed : Array Bool} (h : qBn ops listed) {i : Nat} (hi : i ∈ Region.ready .any ops listed) : qBn ops (listed.setIfInBounds i true) := by
 obtain ⟨h0, o, ho, hall⟩ := mem_ready.1 hi
 intro k o' e hk hl he hb
 by_cases hik : i = k
 ·subst hik
  rw [ho] at hk
  simp only [Option.some.injEq] at hk
  subst hk
  exact getD_set_true (hall e he hb)
 ·rw [getD_set_ne false hik] at hl
  exact getD_set_true (h k o' e hk hl he hb)
theorem qEQ {ops : Array Oper} {listed : Array Bool} (hc : qBn ops listed) {i : Nat} (hi : listed.getD i false = false) : ∀ (n k : Nat), qER ops i n k = true -> listed.getD k false = false /\ k ∉ Region.ready .any ops listed
 | 0, k, h => by simp [qER] at h
 | n + 1, k, h => by
  unfold qER at h
  cases hk : ops[k]? with
  | none => simp [hk] at h
  | some o =>
   simp only [hk, Array.any_eq_true'] at h
   obtain ⟨e, he, hh⟩ := h
   simp only [Bool.and_eq_true, Bool.or_eq_true, beq_iff_eq] at hh
   obtain ⟨hb, hh⟩ := hh
   have hne : listed.getD e.on false = false := by
    rcases hh with hh | hh
    ·rw [hh]; exact hi
    ·exact (qEQ hc hi n e.on hh).1
   refine ⟨?_, fun hr => ?_⟩
   ·rw [Bool.eq_false_iff]
    intro hl
    rw [hc k o e hk hl he hb] at hne; cases hne
   ·obtain ⟨_, o', ho', hall⟩ := mem_ready.1 hr
    rw [hk] at ho'
    simp only [Option.some.injEq] at ho'
    subst ho'
    rw [hall e he hb] at hne; cases hne
theorem qEN {ops : Array Oper} {Q : Exit -> Act -> World -> Prop} {i : Nat} {oi : Oper} {v : Value} (hi : ops[i]? = some oi) (hsel : ∀ (j : Nat) (o : Oper) cs b, ops[j]? = some o -> o.op ≠ .select cs b)
  (hQ : ∀ c a w, ¬ Q (.panic c) a w) (T : World -> World -> Prop) (hTr : ∀ w, T w w) (hT2 : Oper.kd C oi = .blind \/ Oper.kd C oi = .reads) (hTk : Oper.kd C oi = .blind -> ∀ w w', T w w') (hTg : Oper.ld oi = true -> ∀ w w', jO w w' -> ∀ w'', T w' w'' -> T w w'') :
  ∀ (fuel : Nat) (listed : Array Bool) (a : Act) (w : World), qBn ops listed ->
   (∀ j oj, ops[j]? = some oj -> j ≠ i -> listed.getD j true = false -> (∀ e ∈ oj.after, Region.binds .any e = true -> e.on ≠ i) -> oi.apart ops oj = true) ->
   (Oper.kd C oi = .reads -> ∀ j oj, ops[j]? = some oj -> j ≠ i -> listed.getD j true = false -> Oper.kd C oj = .eff -> qER ops i ops.size j = true \/ (Oper.ld oi = true /\ Oper.al C oj = true)) ->
   i ∈ Region.ready .any ops listed -> wG P ops (T w) oi v a ->
   qEO P C ops Q fuel (listed.setIfInBounds i true) (a.put oi.dst v) w -> qEO P C ops Q (fuel + 1) listed a w := by
 intro fuel
 induction fuel with
 | zero =>
  intro listed a w hcl _ _ hr hy H
  refine ⟨fun h => (by rw [h] at hr; cases hr), fun j hj => ?_⟩
  by_cases hji : j = i
  ·subst hji; exact hy.wpOp hi (hTr w) ⟨fun _ => rfl, fun _ => jO.refl w, H⟩
  ·have := ready_mono hj hji
   rw [H.1] at this
   cases this
 | succ fuel ih =>
  intro listed a w hcl hfree hrd hr hy H
  refine ⟨fun h => (by rw [h] at hr; cases hr), fun j hj => ?_⟩
  by_cases hji : j = i
  ·subst hji; exact hy.wpOp hi (hTr w) ⟨fun _ => rfl, fun _ => jO.refl w, H⟩
  ·have h1 := H.2 j (ready_mono hj hji)
   obtain ⟨hjun, oj, hoj, hall⟩ := mem_ready.1 hj
   have hiun : listed.getD i true = false := (mem_ready.1 hr).1
   have hnot : ∀ e ∈ oj.after, Region.binds .any e = true -> e.on ≠ i := fun e he hb heq => by
    have h1 := hall e he hb
    rw [heq, qCV hiun] at h1; cases h1
   have h2 := qIJ hoj (hfree j oj hoj hji hjun hnot) (fun cs b => hsel i oi cs b hi) (fun cs b => hsel j oj cs b hoj) hQ hy h1
   have hfree' : ∀ k ok, ops[k]? = some ok -> k ≠ i -> (listed.setIfInBounds j true).getD k true = false ->
     (∀ e ∈ ok.after, Region.binds .any e = true -> e.on ≠ i) -> oi.apart ops ok = true := fun k ok hk hki hun hno => by
    refine hfree k ok hk hki ?_ hno
    by_cases hjk : j = k
    ·subst hjk; exact hjun
    ·rw [getD_set_ne true hjk] at hun; exact hun
   have hrd' : Oper.kd C oi = .reads -> ∀ k ok, ops[k]? = some ok -> k ≠ i -> (listed.setIfInBounds j true).getD k true = false -> Oper.kd C ok = .eff -> qER ops i ops.size k = true \/ (Oper.ld oi = true /\ Oper.al C ok = true) := fun hre k ok hk hki hun hke => by
    refine hrd hre k ok hk hki ?_ hke
    by_cases hjk : j = k
    ·subst hjk; exact hjun
    ·rw [getD_set_ne true hjk] at hun; exact hun
   refine wpOp_mono (fun a' w' h3 => ⟨h3.2.1, h3.2.2.1, ih (listed.setIfInBounds j true) a' w' (hcl.list hj) hfree' hrd' (ready_mono hr (Ne.symm hji)) ?_ ?_⟩) h2
   ·
    rcases hT2 with hb | hre
    ·refine h3.1.imp (fun ⟨g1, n, g2, g3⟩ => ⟨g1, n, g2, fun w1 _ => g3 w1 (hTk hb w w1)⟩) id
    ·by_cases hjk : Oper.kd C oj = .eff
     ·rcases hrd hre j oj hoj hji hjun hjk with hw' | ⟨hld, hal⟩
      ·exact absurd hj (qEQ hcl (qCV hiun) _ _ hw').2
      ·have hg : jO w w' := h3.2.2.1 fun o ho => by rw [hoj] at ho; simp only [Option.some.injEq] at ho; subst ho; exact hal
       exact h3.1.imp (fun ⟨g1, n, g2, g3⟩ => ⟨g1, n, g2, fun w1 hw1 => g3 w1 (hTg hld w w' hg w1 hw1)⟩) id
     ·have : w' = w := h3.2.1 fun o ho => by rw [hoj] at ho; simp only [Option.some.injEq] at ho; subst ho; exact hjk
      rw [this]; exact h3.1
   ·rw [Array.setIfInBounds_comm _ _ hji]
    exact h3.2.2.2
theorem qHN {p : Nat -> Prop} : ∀ {l : List Nat}, qNV p l -> ∀ i ∈ l, p i
 | [], _, i, hi => by cases hi
 | [j], h, i, hi => by
  rcases List.mem_cons.1 hi with rfl | hi
  ·exact h
  ·cases hi
 | j :: k :: l, h, i, hi => by
  rcases List.mem_cons.1 hi with rfl | hi
  ·exact h.1
  ·exact qHN h.2 i hi
theorem qEq (hC : jK P C) {call : CallF} (hcall : xI P C call) {ops : Array Oper} {φ : Fix} (hds : ∀ (i : Nat) o s, ops[i]? = some o -> o.dst = some s -> s < φ.N) (hneat : Region.neat ops = true) {K : St -> Prop} {Q : Exit -> Act -> World -> Prop}
  (hQ : ∀ a w, qAt φ K a w -> Q .normal a w) (hQp : ∀ c a w, ¬ Q (.panic c) a w) :
  ∀ (n : Nat) {listed : Array Bool} {ρ : Env} {st : St} {a : Act} {w : World}, qBn ops listed -> Rep φ ρ st a w -> qCb C call ops n listed st K -> qEO P C ops Q n listed a w
 | 0, listed, ρ, st, a, w, hcl, h, he => by
  unfold qCb at he
  split at he
  ·rename_i hr; exact ⟨hr, hQ a w ⟨ρ, st, h, he⟩⟩
  ·exact he.elim
 | n + 1, listed, ρ, st, a, w, hcl, h, he => by
  unfold qCb at he
  split at he
  ·rename_i hr
   exact ⟨fun _ => hQ a w ⟨ρ, st, h, he⟩, fun i hi => by rw [hr] at hi; cases hi⟩
  ·rename_i i0 r hr
   split at he
   ·
    rename_i i hf
    have hi : i ∈ Region.ready .any ops listed := by rw [hr]; exact List.mem_of_find?_eq_some hf
    have hfi : Region.first C ops listed i = true := by have := List.find?_some hf; simpa using this
    obtain ⟨hiun, o, ho, hall⟩ := mem_ready.1 hi
    unfold Region.neat at hneat
    rw [Bool.and_eq_true] at hneat
    obtain ⟨hns, hnt⟩ := hneat
    have hk : Oper.kd C o = .blind \/ Oper.kd C o = .reads := by
     unfold Region.first at hfi
     rw [ho] at hfi
     simp only at hfi
     cases hk : Oper.kd C o with
     | blind => exact .inl rfl
     | reads => exact .inr rfl
     | eff => rw [hk] at hfi; cases hfi
    have hfree : ∀ j oj, ops[j]? = some oj -> j ≠ i -> listed.getD j true = false -> (∀ e ∈ oj.after, Region.binds .any e = true -> e.on ≠ i) -> o.apart ops oj = true := by
     intro j oj hj hji hjun hno
     simp only [List.all_eq_true, List.mem_range] at hnt
     have h1 := hnt i (Array.getElem?_eq_some_iff.1 ho).1
     rw [ho] at h1
     simp only [List.all_eq_true, List.mem_range] at h1
     have h2 := h1 j (Array.getElem?_eq_some_iff.1 hj).1
     rw [hj] at h2
     simp only [Bool.or_eq_true, beq_iff_eq, hji, false_or] at h2
     rcases h2 with (h2 | h2) | h2
     ·obtain ⟨e, he', hb⟩ := Array.any_eq_true'.1 h2
      simp only [Bool.and_eq_true, beq_iff_eq] at hb
      exact absurd hb.2 (hno e he' hb.1)
     ·obtain ⟨e, he', hb⟩ := Array.any_eq_true'.1 h2
      simp only [Bool.and_eq_true, beq_iff_eq] at hb
      have := hall e he' hb.1
      rw [hb.2, qCV hjun] at this; cases this
     ·exact h2
    have hrd : Oper.kd C o = .reads -> ∀ j oj, ops[j]? = some oj -> j ≠ i -> listed.getD j true = false -> Oper.kd C oj = .eff -> qER ops i ops.size j = true \/ (Oper.ld o = true /\ Oper.al C oj = true) := by
     intro hre j oj hj hji hjun hje
     unfold Region.first at hfi
     rw [ho] at hfi
     simp only [hre, List.all_eq_true, List.mem_range] at hfi
     have h1 := hfi j (Array.getElem?_eq_some_iff.1 hj).1
     rw [hj] at h1
     simp only [Bool.or_eq_true, beq_iff_eq, hji, hjun, hje, decide_true, Bool.not_true, Bool.and_eq_true, false_or] at h1
     rcases h1 with (h1 | h1) | h1
     ·cases h1
     ·exact .inr (by simpa using h1)
     ·exact .inl h1
    have key : ∃ v, wG P ops (fun w1 => Oper.kd C o = .blind \/ w1 = w \/ (Oper.ld o = true /\ jO w w1)) o v a /\ qAt φ (fun s => qCb C call ops n (listed.setIfInBounds i true) s K) (a.put o.dst v) w := by
     rcases qFH hC h hds ho he with ⟨hw, st', h', he'⟩ | ⟨hw, ha⟩
     ·rcases qJ0 hC hcall h' (fun s hs => hds i o s ho hs) he' with ⟨m, v, w', h1, h2, h3, h4, h5, h6, _⟩ | ⟨hke, _⟩
      ·have hne : Oper.kd C o ≠ .eff := by rcases hk with hk | hk <;> rw [hk] <;> simp
       obtain rfl := h4 hne
       refine ⟨v, .inl ⟨hw, m, h2, fun w1 hw1 => ?_⟩, h3⟩
       rcases hw1 with hb | rfl | ⟨hl, g⟩
       ·exact h5 hb w1
       ·exact h1
       ·exact h6 hl w1 g
      ·rcases hk with hk | hk <;> rw [hk] at hke <;> cases hke
     ·exact ⟨undef, .inr ⟨hw, rfl⟩, ha⟩
    obtain ⟨v, hy, ρ', st', h', he'⟩ := key
    exact qEN ho (Region.noSelect_spec hns) hQp (fun w w1 => Oper.kd C o = .blind \/ w1 = w \/ (Oper.ld o = true /\ jO w w1)) (fun w => .inr (.inl rfl)) hk (fun hb w w' => .inl hb)
     (fun hl w w' g w'' ht => by
      rcases ht with hb | rfl | ⟨_, g'⟩
      ·exact .inl hb
      ·exact .inr (.inr ⟨hl, g⟩)
      ·exact .inr (.inr ⟨hl, g.trans g'⟩)) n listed a w hcl hfree hrd hi hy
     (qEq hC hcall hds (by unfold Region.neat; rw [hns, hnt]; rfl) hQ hQp n (hcl.list hi) h' he')
   ·
    refine ⟨fun h0 => (by rw [hr] at h0; cases h0), fun i hi => ?_⟩
    have he' := qHN he i (by rw [<- hr]; exact hi)
    refine wpOp_mono (fun a' w' ⟨h1, h2, ρ', st', h', he''⟩ => ⟨h1, h2, ?_⟩) (qLO hC hcall h hds (K := fun s => qCb C call ops n (listed.setIfInBounds i true) s K) he')
    exact qEq hC hcall hds hneat hQ hQp n (hcl.list hi) h' he''
end
section
variable {φ : Fix} {ρ : Env} {st : St} {a : Act} {w : World}
theorem Rep.shrink (h : Rep φ ρ st a w) {st' : St} (hs : ∀ s v, qL s st'.slots = some v -> qL s st.slots = some v)
  (hr : ∀ d r, qL d st'.rows = some r -> qL d st.rows = some r) (hb : ∀ b x, qL b st'.boxes = some x -> qL b st.boxes = some x)
  (hus : ∀ s v c d r, qL s st'.slots = some v -> c ∈ v.all -> c.says (CV.speaks d) = true -> qL d st.rows = some r -> qL d st'.rows = some r)
  (hub : ∀ b x c d r, qL b st'.boxes = some x -> c ∈ x.cs -> c.says (CV.speaks d) = true -> qL d st.rows = some r -> qL d st'.rows = some r)
  (hl : ∀ d, d ∈ st'.lentR -> d ∈ st.lentR) (hl' : ∀ d, d ∈ st'.lentB -> d ∈ st.lentB) : Rep φ { ρ with on := fun d => ρ.on d /\ ∃ r, qL d st'.rows = some r } st' a w := by
 have m : ∀ c : CV, (∀ d r, c.says (CV.speaks d) = true -> qL d st.rows = some r -> qL d st'.rows = some r) -> jM ρ { ρ with on := fun d => ρ.on d /\ ∃ r, qL d st'.rows = some r } w w c := fun c hc =>
  ⟨fun _ h => h, qC.refl _ _, fun _ _ => ⟨rfl, rfl⟩, fun d hd ho => by
   obtain ⟨r, hr'⟩ := h.on d ho
   exact ⟨⟨ho, r, hc d r (wV hd) hr'⟩, fun _ _ _ _ _ => qC.refl _ _⟩, fun _ _ => rfl⟩
 exact {
  size := h.size, nodef := h.nodef, on := fun d hd => hd.2
  slots := fun s v hv => ⟨(h.slots s v (hs s v hv)).1, kF (fun c hc => m c fun d r hd hr' => hus s v c d r hv hc hd hr') (h.slots s v (hs s v hv)).2⟩
  rows := fun d r hd => h.rows d r (hr d r hd)
  boxes := fun b x hx => by
   obtain ⟨arr, fr, h1, h2, h3⟩ := h.boxes b x (hb b x hx)
   exact ⟨arr, fr, h1, h2, h3.impMem fun c v hc hv => jP (m c fun d r hd hr' => hub b x c d r hx hc hd hr') hv⟩
  rsep := fun d d' r r' h1 h2 => h.rsep d d' r r' (hr _ _ h1) (hr _ _ h2)
  rF := fun d r h1 => h.rF d r (hr _ _ h1)
  rb := fun d r b x h1 h2 => h.rb d r b x (hr _ _ h1) (hb _ _ h2)
  bsep := fun b b' x x' h1 h2 => h.bsep b b' x x' (hb _ _ h1) (hb _ _ h2)
  bF := fun b x h1 => h.bF b x (hb _ _ h1)
  Fbd := h.Fbd, F0 := h.F0, grow := h.grow, io := h.io, tab := h.tab, keep := h.keep
  lentR := fun d hd => h.lentR d (hl d hd), lentB := fun d hd => h.lentB d (hl' d hd) }
theorem yC {α : Type} {k : Nat} {x : α} : ∀ {l : List (Nat × α)}, qL k l = some x -> (k, x) ∈ l
 | [], h => by simp [qL] at h
 | (i, b) :: l, h => by
  simp only [qL] at h
  split at h
  ·rename_i hi; subst hi; simp only [Option.some.injEq] at h; subst h; exact List.mem_cons_self
  ·exact List.mem_cons_of_mem _ (yC h)
theorem qM3 {v : SV} {c : CV} {p : CV -> Bool} (hc : c ∈ v.all) (hp : c.says p = true) : v.anyC p = true := by
 cases v with
 | undef => cases hc
 | clo _ _ _ => cases hc
 | c x => simp only [SV.all, List.mem_singleton] at hc; subst hc; exact hp
 | agg xs => simp only [SV.anyC, List.any_eq_true]; exact ⟨c, hc, hp⟩
 | tup vs =>
  simp only [SV.all, List.mem_flatMap] at hc
  obtain ⟨u, hu, hc⟩ := hc
  simp only [SV.anyC, List.any_eq_true]
  refine ⟨u, hu, ?_⟩
  cases u with
  | c x => simp only [List.mem_singleton] at hc; subst hc; exact hp
  | agg ys => simp only [List.any_eq_true]; exact ⟨c, hc, hp⟩
  | undef => cases hc
  | clo _ _ _ => cases hc
  | tup _ => cases hc
theorem Rep.keepSlots (h : Rep φ ρ st a w) (ks : List Nat) : Rep φ ρ { st with slots := keepSlots ks st.slots } a w :=
 h.less h.on (fun s v hv => by
  unfold Go.Vsi.keepSlots at hv
  have := kT (fun i => ks.contains i) s st.slots
  simp only at hv
  rw [this] at hv
  split at hv
  ·exact hv
  ·cases hv) (fun _ _ h => h) (fun _ _ h => h) (fun _ h => h) (fun _ h => h)
theorem Rep.usedBoxes (h : Rep φ ρ st a w) : Rep φ ρ { st with boxes := usedBoxes st } a w :=
 h.less h.on (fun _ _ h => h) (fun _ _ h => h) (fun b x hx => by
  unfold Go.Vsi.usedBoxes at hx
  have := kT (fun b => st.lentB.contains b || st.slots.any (fun x => x.2.anyC (CV.pts b)) || st.boxes.any fun b' => b'.2.cs.any (CV.says (CV.pts b))) b st.boxes
  simp only at hx
  rw [this] at hx
  split at hx
  ·exact hx
  ·cases hx) (fun _ h => h) (fun _ h => h)
theorem Rep.usedRows (h : Rep φ ρ st a w) : ∃ ρ', Rep φ ρ' { st with rows := usedRows st } a w := by
 have hlk : ∀ d, qL d (Go.Vsi.usedRows st) = if (st.lentR.contains d || st.slots.any (fun x => x.2.anyC (CV.speaks d)) || st.boxes.any fun b => b.2.cs.any (CV.says (CV.speaks d))) = true then qL d st.rows else none := fun d =>
  kT (fun d => st.lentR.contains d || st.slots.any (fun x => x.2.anyC (CV.speaks d)) || st.boxes.any fun b => b.2.cs.any (CV.says (CV.speaks d))) d st.rows
 refine ⟨_, h.shrink (st' := { st with rows := Go.Vsi.usedRows st }) (fun _ _ h => h) (fun d r hd => ?_) (fun _ _ h => h) (fun s v c d r hv hc hd hr => ?_) (fun b x c d r hx hc hd hr => ?_) (fun _ h => h) (fun _ h => h)⟩
 ·simp only [hlk] at hd
  split at hd
  ·exact hd
  ·cases hd
 ·simp only [hlk]
  rw [if_pos]
  ·exact hr
  ·simp only [Bool.or_eq_true, List.any_eq_true]
   exact .inl (.inr ⟨(s, v), yC hv, qM3 hc hd⟩)
 ·simp only [hlk]
  rw [if_pos]
  ·exact hr
  ·simp only [Bool.or_eq_true, List.any_eq_true]
   exact .inr ⟨(b, x), yC hx, c, hc, hd⟩
def Jth (z : Value) (j : Nat) : SV -> Value -> Prop
 | .c _, x => x = z
 | .agg _, x => ∃ arr, z = .agg arr /\ arr.toList[j]? = some x
 | _, _ => False
theorem xJ {z : Value} {j : Nat} {v : SV} {x : Value} {p : CV -> Bool} : Jth z j (v.kill p) x ↔ Jth z j v x := by
 cases v <;> exact Iff.rfl
theorem qC5 {v : SV} {z : Value} {j : Nat} {c : CV} (h : SVR ρ w v z) (hc : v.cellAt j = some c) : ∃ x, Jth z j v x /\ CVR ρ w c x := by
 cases v with
 | c y => simp only [SV.cellAt, Option.some.injEq] at hc; subst hc; exact ⟨z, rfl, h⟩
 | agg xs =>
  obtain ⟨arr, rfl, ha⟩ := h
  obtain ⟨x, h1, h2⟩ := ha.get hc
  exact ⟨x, ⟨arr, rfl, h1⟩, h2⟩
 | _ => simp [SV.cellAt] at hc
theorem jC.set' {α β : Type} {R : α -> β -> Prop} : ∀ {l : List α} {r : List β} (i : Nat) {a : α}, jC R l r -> (∀ b, r[i]? = some b -> R a b) -> jC R (l.set i a) r
 | [], [], _, _, _, _ => trivial
 | _ :: _, _ :: _, 0, _, p, h => ⟨h _ rfl, p.2⟩
 | _ :: _, _ :: _, i + 1, _, p, h => ⟨p.1, jC.set' i p.2 fun b hb => h b hb⟩
theorem qIw {v : SV} {z : Value} {j : Nat} {c : CV} (h : SVR ρ w v z) (hc : ∀ x, Jth z j v x -> CVR ρ w c x) : SVR ρ w (v.cellSet j c) z := by
 cases v with
 | c y => exact hc z rfl
 | agg xs =>
  obtain ⟨arr, rfl, ha⟩ := h
  exact ⟨arr, rfl, ha.set' j fun b hb => hc b ⟨arr, rfl, hb⟩⟩
 | undef => exact h
 | clo _ _ _ => exact h
 | tup _ => exact h
theorem qBN {z : Value} {j : Nat} {v : SV} {x y : Value} (h : Jth z j v x) (h' : Jth z j v y) : x = y := by
 cases v with
 | c _ => exact h.trans h'.symm
 | agg _ =>
  obtain ⟨arr, rfl, h1⟩ := h
  obtain ⟨arr', e, h2⟩ := h'
  simp only [Value.agg.injEq] at e
  subst e
  rw [h1] at h2; simpa using h2
 | _ => exact h.elim
theorem Rep.cellTo (h : Rep φ ρ st a w) {s j : Nat} {c : CV} {st' : St} (he : st.cellTo s j c = some st') (hc : ∀ v x, qL s st.slots = some v -> Jth (a.tmps.getD s undef) j v x -> CVR ρ w c x) : Rep φ ρ st' a w := by
 unfold St.cellTo at he
 split at he
 ·rename_i v hv
  simp only [Option.some.injEq] at he; subst he
  obtain ⟨h1, h2⟩ := h.slots s v hv
  exact h.reset h1 (qIw h2 fun x hx => hc v x hv hx)
 ·cases he
theorem Rep.resetBox (h : Rep φ ρ st a w) {b : Nat} {x : Box} (hb0 : st.box? b = some x) {cs : List CV} (hc : ∀ arr fr, w.heap[ρ.blk b]? = some (.cells arr x.e fr) -> jC (CVR ρ w) x.cs arr.toList -> jC (CVR ρ w) cs arr.toList) :
  Rep φ ρ { st with boxes := put b { x with cs := cs } st.boxes } a w := by
 have hb := (wU hb0).1
 have hlk : ∀ {b' y}, qL b' (put b { x with cs := cs } st.boxes) = some y -> (b' = b /\ y = { x with cs := cs }) \/ (b' ≠ b /\ qL b' st.boxes = some y) := fun {b' y} hy => by
  rw [qP] at hy
  by_cases hh : b' = b
  ·rw [if_pos hh] at hy; simp only [Option.some.injEq] at hy; exact .inl ⟨hh, hy.symm⟩
  ·rw [if_neg hh] at hy; exact .inr ⟨hh, hy⟩
 have old : ∀ {b' y}, qL b' (put b { x with cs := cs } st.boxes) = some y -> ∃ y', qL b' st.boxes = some y' /\ y'.ro = y.ro := fun hy => by
  rcases hlk hy with ⟨rfl, rfl⟩ | ⟨_, hy⟩
  ·exact ⟨x, hb, rfl⟩
  ·exact ⟨_, hy, rfl⟩
 exact { h with
  boxes := fun b' y hy => by
   rcases hlk hy with ⟨rfl, rfl⟩ | ⟨_, hy⟩
   ·obtain ⟨arr, fr, h1, h2, h3⟩ := h.boxes b' x hb
    exact ⟨arr, fr, h1, h2, hc arr fr (h1.cells (wU hb0).2) h3⟩
   ·exact h.boxes b' y hy
  rb := fun d r b' y hd hy => by obtain ⟨y', hy', _⟩ := old hy; exact h.rb d r b' y' hd hy'
  bsep := fun b1 b2 x1 x2 h1 h2 hn => by obtain ⟨y1, e1, _⟩ := old h1; obtain ⟨y2, e2, _⟩ := old h2; exact h.bsep b1 b2 y1 y2 e1 e2 hn
  bF := fun b' y hy => by obtain ⟨y', hy', e⟩ := old hy; rw [<- e]; exact h.bF b' y' hy' }
theorem Rep.boxTo (h : Rep φ ρ st a w) {b j : Nat} {c : CV} {st' : St} (he : st.boxTo b j c = some st') (hc : ∀ x arr fr y, st.box? b = some x -> w.heap[ρ.blk b]? = some (.cells arr x.e fr) -> arr.toList[j]? = some y -> CVR ρ w c y) : Rep φ ρ st' a w := by
 unfold St.boxTo at he
 split at he
 ·rename_i x hx
  simp only [Option.some.injEq] at he; subst he
  exact h.resetBox hx fun arr fr h1 h2 => h2.set' j fun y hy => hc x arr fr y hx h1 hy
 ·cases he
theorem Rep.rename (h : Rep φ ρ st a w) {d d' m : Nat} {st' : St} (he : rename st d d' m = some st') : ∃ ρ', Rep φ ρ' st' a w /\ ρ'.val d' = ρ.val d /\ ρ'.blk = ρ.blk /\ (∀ y, ρ.F y -> ρ'.F y) := by
 unfold Go.Vsi.rename at he
 split at he
 ·rename_i r hr
  obtain ⟨hd, hrm⟩ := zY hr
  split at he
  ·rename_i him
   split at he
   ·rename_i hdd
    subst hdd
    simp only [Option.some.injEq] at he; subst he
    exact ⟨ρ, h, rfl, rfl, fun _ h => h⟩
   ·split at he
    ·cases he
    ·simp only [Option.some.injEq] at he; subst he
     obtain ⟨p1, p2, p3, p4⟩ := h.rows d r hd
     have h1 := h.dropRow d
     have ap := h.take hd
     have h3 := h1.addRowD (jO.refl w) (d := d') (r := r) (v := ρ.val d) (B := ρ.ft d) p3 p4 ap.here (fun e r' _ he y hy => ap.row e r' he y hy) (fun b x hx => ap.box b x hx)
     exact ⟨_, h3, by simp [Env.setRow], rfl, fun y hy => hy⟩
  rename_i him
  have hr0 : r.hole = none := hrm.resolve_right (by simpa using him)
  split at he
  ·rename_i hdd
   subst hdd
   simp only [Option.some.injEq] at he; subst he
   obtain ⟨ρ', l, _, _, _, _, h'⟩ := h.lowRow hd hr0 (k := Nat.min r.m m) (Nat.min_le_left _ _)
   exact ⟨ρ', h', by rw [l.val], l.blk, l.F⟩
  ·rename_i hdd
   split at he
   ·cases he
   ·simp only [Option.some.injEq] at he; subst he
    obtain ⟨p1, p2, p3, p4⟩ := h.rows d r hd
    obtain ⟨B', g1, _, _, g4⟩ := qBj (Nat.min_le_left r.m m) (zJ.whole hr0 p3)
    have h1 := h.dropRow d
    have ap := h.take hd
    have h2 := h1.addF (G := fun y => ρ.ft d y /\ ¬ B' y) (ap.sub fun y hy => hy.1)
    have ap2 := (ap.sub (B' := B') fun y hy => g1 y hy).addF (G := fun y => ρ.ft d y /\ ¬ B' y) fun y hy hg => hg.2 hy
    have h3 := h2.addRow (jO.refl w) (d := d') (r := { r with m := Nat.min r.m m }) (v := ρ.val d) (B := B') (show r.hole = none from hr0) g4 p4 ap2.here (fun e r' _ he y hy => ap2.row e r' he y hy) (fun b x hx => ap2.box b x hx)
    exact ⟨_, h3, by simp [Env.setRow], rfl, fun y hy => .inl hy⟩
 ·cases he
theorem qH1 {F : Nat -> Prop} {e : TypeId} {t : Ty} {m n c hi k : Nat} {l : List t.T} {B : Nat -> Prop} {a1 a2 : Option Addr} {v : Value} (hm : 1 <= m) (h : qJ F w (.sl e t) m l B [.slice a1 n c]) (h3 : hi <= n) (h4 : n <= c) (hv : v = .slice a2 (hi - 0) (c - 0)) (ha : 0 < c -> a2 = a1.map (·.add (0 * k))) :
  qJ F w (.sl e t) m (l.take hi) B [v] /\ (l ≠ [] -> ∃ b n c, xP v b n c) := by
 match m, hm with
 | m + 1, _ =>
  rw [qJ] at h ⊢
  obtain ⟨v', q1, a3, c3, q2, q3⟩ := h
  simp only [List.cons.injEq, and_true] at q1
  rw [<- q1] at q2
  simp only [Value.slice.injEq] at q2
  obtain ⟨rfl, rfl, rfl⟩ := q2
  have hl : (l.take hi).length = hi := by rw [List.length_take]; omega
  rcases q3 with ⟨rfl, rfl⟩ | ⟨b, arr, fr, rfl, g2, g3, g4, g5, g6, Bs, g7, g8, g9⟩
  ·refine ⟨⟨v, rfl, a2, 0, ?_, .inl ⟨by simp, rfl⟩⟩, fun h => absurd rfl h⟩
   rw [hv, hl]; rfl
  ·by_cases hc : 0 < c
   ·have ha' : a2 = some ⟨b, 0, none⟩ := by rw [ha hc, Nat.zero_mul]; rfl
    refine ⟨⟨v, rfl, some ⟨b, 0, none⟩, c, by rw [hv, hl, ha']; rfl, .inr ⟨b, arr, fr, rfl, g2, g3, g4, by omega, g6, Bs, fun i x hi' => g7 i x (by omega), fun i j x h1 h2 => g8 i j x (by omega) (by omega), fun i h => ?_⟩⟩, fun _ => ⟨b, hi, c, by rw [hv, ha']; rfl⟩⟩
    obtain ⟨vs, k1, k2⟩ := g9 i (by omega)
    exact ⟨vs, k1, by rw [List.getElem_take]; exact k2⟩
   ·have hl0 : l = [] := List.eq_nil_of_length_eq_zero (by omega)
    subst hl0
    refine ⟨⟨v, rfl, a2, 0, ?_, .inl ⟨by simp, rfl⟩⟩, fun h => absurd rfl h⟩
    rw [hv, hl, show c = 0 by omega]; rfl
theorem Rep.narrowTo (h : Rep φ ρ st a w) {d hi d' m : Nat} {st' : St} (he : Go.Vsi.narrow st d hi d' m = some st') {v : Value} (hv : CVR ρ w (.vw d 0 hi) v) : ∃ ρ', Rep φ ρ' st' a w /\ ρ'.val d' = v /\ ρ'.blk = ρ.blk /\ v.oneCell' = true := by
 unfold Go.Vsi.narrow at he
 split at he
 ·rename_i r hr
  have hd := qM hr
  split at he
  ·cases he
  ·rename_i hn
   simp only [Option.some.injEq] at he; subst he
   obtain ⟨p1, p2, p3, p4⟩ := h.rows d r hd
   have q1 : r.hole = none := qN hr
   obtain ⟨a1, n, c1, a2, e1, _, h3, h4, e2, e3⟩ := (hv : zQ ρ w (.vw d 0 hi) v)
   obtain ⟨B', g1, _, _, g4⟩ := qBj (Nat.min_le_left r.m m) (zJ.whole q1 p3)
   have hm : 1 <= Nat.min r.m m := Nat.le_min.2 ⟨by omega, by omega⟩
   obtain ⟨g5, g6⟩ := qH1 hm (by rw [<- e1]; exact g4) h3 h4 e2 e3
   have h1 := h.dropRow d
   have ap := h.take hd
   have h2 := h1.addF (G := fun y => ρ.ft d y /\ ¬ B' y) (ap.sub fun y hy => hy.1)
   have ap2 := (ap.sub (B' := B') fun y hy => g1 y hy).addF (G := fun y => ρ.ft d y /\ ¬ B' y) fun y hy hg => hg.2 hy
   have h3 := h2.addRow (jO.refl w) (d := d') (r := { r with l := r.l.take hi, m := Nat.min r.m m }) (v := v) (B := B') (show r.hole = none from q1) g5 (fun hne => g6 fun hr0 => hne (by show r.l.take hi = []; rw [hr0]; exact List.take_nil)) ap2.here (fun e r' _ he y hy => ap2.row e r' he y hy) (fun b x hx => ap2.box b x hx)
   exact ⟨_, h3, by simp [Env.setRow], rfl, by rw [e2]; rfl⟩
 ·cases he
theorem Rep.fzRow (h : Rep φ ρ st a w) {d : Nat} {st' : St} (he : Go.Vsi.fzRow st d = some st') : ∃ ρ', Rep φ ρ' st' a w := by
 unfold Go.Vsi.fzRow at he
 split at he
 ·rename_i r hd
  split at he
  ·rename_i h0
   split at he
   ·cases he
   ·rename_i hm
    simp only [Option.some.injEq] at he; subst he
    obtain ⟨M, hM⟩ : ∃ M, r.m = M + 1 := ⟨r.m - 1, by omega⟩
    obtain ⟨p1, p2, p3, p4⟩ := h.rows d r hd
    have ho := zJ.whole h0 p3
    rw [hM] at ho
    exact ⟨_, h.putRowD (r' := { r with hole := some (0, wT) }) (B := ρ.ft d) hd (Nat.le_refl _) (zD.refl w) (fun _ _ _ => rfl) rfl (zJ.mkFz rfl hM (qID ho)) p4 fun y hy => .inl hy⟩
  ·split at he
   ·simp only [Option.some.injEq] at he; subst he; exact ⟨ρ, h⟩
   ·cases he
 ·cases he
theorem qNW (h : Rep φ ρ st a w) {s j : Nat} {c : Co} {st' : St} (he : co1 st s j c = some st') : ∃ ρ', Rep φ ρ' st' a w := by
 unfold co1 at he
 split at he
 ·cases he
 ·rename_i v hv
  have hsv := (h.slots s v hv).2
  split at he
  ·rename_i d m hc
   split at he
   ·rename_i st1 h1
    obtain ⟨ρ', h2, hval, _⟩ := h.rename h1
    obtain ⟨x, hx, hxv⟩ := qC5 hsv hc
    refine ⟨ρ', h2.cellTo he fun v' y hv' hy => ?_⟩
    have hj : Jth (a.tmps.getD s undef) j v y := by
     unfold rename at h1
     split at h1
     ·split at h1
      ·split at h1
       ·simp only [Option.some.injEq] at h1; subst h1
        have : v' = v := by have := hv'.symm.trans hv; simpa using this
        rw [<- this]; exact hy
       ·split at h1
        ·cases h1
        ·simp only [Option.some.injEq] at h1; subst h1
         obtain ⟨u1, hu1, rfl⟩ := jU (st := st.dropRow d) hv'
         obtain ⟨u2, hu2, rfl⟩ := jU (st := st) hu1
         have : u2 = v := by have := hu2.symm.trans hv; simpa using this
         rw [<- this]; exact xJ.1 (xJ.1 hy)
      split at h1
      ·simp only [Option.some.injEq] at h1; subst h1
       have : v' = v := by have := hv'.symm.trans hv; simpa using this
       rw [<- this]; exact hy
      ·split at h1
       ·cases h1
       ·simp only [Option.some.injEq] at h1; subst h1
        obtain ⟨u1, hu1, rfl⟩ := jU (st := st.dropRow d) hv'
        obtain ⟨u2, hu2, rfl⟩ := jU (st := st) hu1
        have : u2 = v := by have := hu2.symm.trans hv; simpa using this
        rw [<- this]; exact xJ.1 (xJ.1 hy)
     ·cases h1
    rw [qBN hj hx]
    exact ⟨by rw [hxv.1, hval], hxv.2⟩
   ·cases he
  ·rename_i d lo hi m hc
   split at he
   ·rename_i hlo
    subst hlo
    split at he
    ·rename_i st1 h1
     obtain ⟨x, hx, hxv⟩ := qC5 hsv hc
     obtain ⟨ρ', h2, hval, _, hone⟩ := h.narrowTo h1 hxv
     refine ⟨ρ', h2.cellTo he fun v' y hv' hy => ?_⟩
     have hj : Jth (a.tmps.getD s undef) j v y := by
      unfold narrow at h1
      split at h1
      ·split at h1
       ·cases h1
       ·simp only [Option.some.injEq] at h1; subst h1
        obtain ⟨u1, hu1, rfl⟩ := jU (st := st.dropRow d) hv'
        obtain ⟨u2, hu2, rfl⟩ := jU (st := st) hu1
        have : u2 = v := by have := hu2.symm.trans hv; simpa using this
        rw [<- this]; exact xJ.1 (xJ.1 hy)
      ·cases h1
     rw [qBN hj hx]
     exact ⟨hval.symm, hone⟩
    ·cases he
   ·cases he
  ·rename_i d hc
   split at he
   ·rename_i r hr
    split at he
    ·cases he
    ·have hd := qM hr
     obtain ⟨x, hx, hxv⟩ := qC5 hsv hc
     have h1 := (h.dropRow d).addF (G := ρ.ft d) (h.take hd)
     refine ⟨_, h1.cellTo he fun v' y hv' hy => ?_⟩
     obtain ⟨u, hu, rfl⟩ := jU (st := st) hv'
     have : u = v := by have := hu.symm.trans hv; simpa using this
     subst this
     rw [qBN (xJ.1 hy) hx, show x = ρ.val d from hxv.1]
     have := qAb (zJ.whole (qN hr) (h.rows d r hd).2.2.1)
     obtain ⟨v0, e, h0⟩ := kB.1 this
     simp only [List.cons.injEq, and_true] at e
     rw [e]; exact h0
   ·cases he
  ·simp only [Option.some.injEq] at he; subst he; exact ⟨ρ, h⟩
  ·exact h.fzRow he
  ·cases he
theorem qMY (h : Rep φ ρ st a w) {b j : Nat} {c : Co} {st' : St} (he : qQc st b j c = some st') : ∃ ρ', Rep φ ρ' st' a w := by
 unfold qQc at he
 split at he
 ·cases he
 ·rename_i x hx
  obtain ⟨arr, fr, k1, k2, k3⟩ := h.cellsBox hx
  split at he
  ·rename_i d m hc
   split at he
   ·rename_i st1 h1
    obtain ⟨ρ', h2, hval, hblk, _⟩ := h.rename h1
    obtain ⟨y, hy, hyv⟩ := k3.get hc
    refine ⟨ρ', h2.boxTo he fun x' arr' fr' y' hx' ha' hy' => ?_⟩
    rw [hblk, k1] at ha'
    simp only [Option.some.injEq, Obj.cells.injEq] at ha'
    obtain ⟨rfl, _, _⟩ := ha'
    rw [hy] at hy'
    simp only [Option.some.injEq] at hy'
    subst hy'
    exact ⟨by rw [hyv.1, hval], hyv.2⟩
   ·cases he
  ·rename_i d lo hi m hc
   split at he
   ·rename_i hlo
    subst hlo
    split at he
    ·rename_i st1 h1
     obtain ⟨y, hy, hyv⟩ := k3.get hc
     obtain ⟨ρ', h2, hval, hblk, hone⟩ := h.narrowTo h1 hyv
     refine ⟨ρ', h2.boxTo he fun x' arr' fr' y' hx' ha' hy' => ?_⟩
     rw [hblk, k1] at ha'
     simp only [Option.some.injEq, Obj.cells.injEq] at ha'
     obtain ⟨rfl, _, _⟩ := ha'
     rw [hy] at hy'
     simp only [Option.some.injEq] at hy'
     subst hy'
     exact ⟨hval.symm, hone⟩
    ·cases he
   ·cases he
  ·rename_i d hc
   split at he
   ·rename_i r hr
    split at he
    ·cases he
    ·have hd := qM hr
     obtain ⟨y, hy, hyv⟩ := k3.get hc
     have h1 := (h.dropRow d).addF (G := ρ.ft d) (h.take hd)
     refine ⟨_, h1.boxTo he fun x' arr' fr' y' hx' ha' hy' => ?_⟩
     have ha2 : w.heap[ρ.blk b]? = some (.cells arr' x'.e fr') := ha'
     rw [k1] at ha2
     simp only [Option.some.injEq, Obj.cells.injEq] at ha2
     obtain ⟨rfl, _, _⟩ := ha2
     rw [hy] at hy'
     simp only [Option.some.injEq] at hy'
     subst hy'
     rw [show y = ρ.val d from hyv.1]
     have := qAb (zJ.whole (qN hr) (h.rows d r hd).2.2.1)
     obtain ⟨v0, e, h0⟩ := kB.1 this
     simp only [List.cons.injEq, and_true] at e
     rw [e]; exact h0
   ·cases he
  ·simp only [Option.some.injEq] at he; subst he; exact ⟨ρ, h⟩
  ·exact h.fzRow he
  ·cases he
theorem qKa : ∀ {cs : List (Nat × Nat × Co)} {ρ : Env} {st st' : St}, Rep φ ρ st a w -> cos st cs = some st' -> ∃ ρ', Rep φ ρ' st' a w
 | [], ρ, st, st', h, he => by simp only [cos, Option.some.injEq] at he; subst he; exact ⟨ρ, h⟩
 | (s, j, c) :: cs, ρ, st, st', h, he => by
  simp only [cos] at he
  split at he
  ·rename_i st1 h1
   split at h1
   ·obtain ⟨ρ1, r1⟩ := qNW h h1; exact qKa r1 he
   ·obtain ⟨ρ1, r1⟩ := qMY h h1; exact qKa r1 he
  ·cases he
theorem qKX (h : Rep φ ρ st a w) {ks : List Nat} {cs : List (Nat × Nat × Co)} {st' : St} (he : qCL ks cs st = some st') : ∃ ρ', Rep φ ρ' st' a w := by
 unfold qCL at he
 simp only at he
 split at he
 ·cases he
 ·rename_i st2 h2
  simp only [Option.some.injEq] at he; subst he
  obtain ⟨ρ2, r2⟩ := qKa (h.keepSlots ks) h2
  exact (r2.usedBoxes.usedBoxes).usedRows
theorem wP {k : qPQ} {P : St -> Prop} (h : Rep φ ρ st a w) (he : vN k st P) : qAt φ P a w := by
 unfold vN at he
 split at he
 ·rename_i st' h'
  obtain ⟨ρ', r'⟩ := qKX h h'
  exact ⟨ρ', st', r', he⟩
 ·exact he.elim
end
def QK (φ : Fix) (K : X -> St -> Prop) : Exit -> Act -> World -> Prop
 | .normal, a, w => qAt φ (K .normal) a w
 | .exit i, a, w => qAt φ (K (.exit i)) a w
 | .ret, a, w => qAt φ (K .ret) a w
 | _, _, _ => False
def qDh (P : Program) (c : Code) (Q : Exit -> Act -> World -> Prop) (a : Act) (w : World) : Prop :=
 ∀ (b : Frame) (k : List Item) (cs : List Frame), ∃ e a' w', Q e a' w' /\ Arrives P (lone (b.at a (.code c :: .inLoop c :: k)) cs w) b k cs e a' w'
theorem qDh.loop {P : Program} {c : Code} {Q : Exit -> Act -> World -> Prop} {a : Act} {w : World} (h : qDh P c Q a w) : (Code.loop c).wp P Q a w := by
 intro b k cs
 obtain ⟨e, a', w', hq, harr⟩ := h b k cs
 exact ⟨e, a', w', hq, .of_steps (.one step_loop) harr⟩
theorem qDh.round {P : Program} {c : Code} {Q : Exit -> Act -> World -> Prop} {a : Act} {w : World} (h : c.wp P (Exit.then (qDh P c Q) Q) a w) : qDh P c Q a w := by
 intro b k cs
 obtain ⟨e, a₁, w₁, hq, harr⟩ := h b (.inLoop c :: k) cs
 cases e with
 | normal =>
  obtain ⟨e₂, a₂, w₂, hq₂, harr₂⟩ := hq b k cs
  exact ⟨e₂, a₂, w₂, hq₂, .of_steps (Steps.trans harr (.one step_inLoop)) harr₂⟩
 | exit id => exact ⟨_, a₁, w₁, hq, .pass (x := .inLoop c) rfl (fun _ _ => .inl (by simp)) harr⟩
 | goto l => exact ⟨_, a₁, w₁, hq, .pass (x := .inLoop c) rfl (fun _ _ => .inl (by simp)) harr⟩
 | ret => exact ⟨_, a₁, w₁, hq, .pass (x := .inLoop c) rfl (fun _ _ => .inl (by simp)) harr⟩
 | panic ch => exact ⟨_, a₁, w₁, hq, .pass (x := .inLoop c) rfl (fun _ _ => .inl (by simp)) harr⟩
 | outgrown => exact ⟨_, a₁, w₁, hq, .pass (x := .inLoop c) rfl (fun _ _ => .inl (by simp)) harr⟩
def qQs (P : Program) (nt : Nat) (fi : Fi) (c0 : Code) (lp : kW) : Prop := ∀ b, (qL (1000000 + jG b) fi.loops).isSome = true -> qY (jG b) c0 = some b -> ∀ (φ : Fix) (ρ : Env) (st : St) (a : Act) (w : World) (K : X -> St -> Prop),
 Rep φ ρ st a w -> nt <= φ.N -> lp (1000000 + jG b) st K -> b.wp P (QK φ K) a w
def qKE (P : Program) (nt : Nat) (fi : Fi) (c0 : Code) (lp : kW) : Prop := qQs P nt fi c0 lp /\ ∀ body, zV body < 1000000 -> qT (zV body) c0 = some body -> ∀ (φ : Fix) (ρ : Env) (st : St) (a : Act) (w : World) (K : X -> St -> Prop),
 Rep φ ρ st a w -> nt <= φ.N -> lp (zV body) st K -> qDh P body (QK φ K) a w
def jQ (p : Code -> Prop) : Code -> Prop
 | .loop a => p a /\ jQ p a
 | .seq a b => jQ p a /\ jQ p b
 | .cond _ a b => jQ p a /\ jQ p b
 | .block _ a => jQ p a
 | _ => True
def zZ : Code -> List Nat
 | .loop a => zV a :: zZ a
 | .seq a b => zZ a ++ zZ b
 | .cond _ a b => zZ a ++ zZ b
 | .block _ a => zZ a
 | _ => []
theorem jQ.imp {p q : Code -> Prop} (h : ∀ a, p a -> q a) : ∀ {c : Code}, jQ p c -> jQ q c := by
 intro c
 induction c with
 | loop a ih => exact fun hp => ⟨h a hp.1, ih hp.2⟩
 | seq a b iha ihb => exact fun hp => ⟨iha hp.1, ihb hp.2⟩
 | cond c a b iha ihb => exact fun hp => ⟨iha hp.1, ihb hp.2⟩
 | block i a ih => exact fun hp => ih hp
 | _ => exact fun _ => trivial
theorem qEm {k : Nat} : ∀ {c : Code}, k ∉ zZ c -> qT k c = none := by
 intro c
 induction c with
 | loop a ih =>
  intro h
  simp only [zZ, List.mem_cons, not_or] at h
  simp only [qT]
  rw [if_neg (fun e => h.1 e.symm)]
  exact ih h.2
 | seq a b iha ihb =>
  intro h
  simp only [zZ, List.mem_append, not_or] at h
  simp only [qT, iha h.1, ihb h.2]
 | cond c a b iha ihb =>
  intro h
  simp only [zZ, List.mem_append, not_or] at h
  simp only [qT, iha h.1, ihb h.2]
 | block i a ih => intro h; simp only [qT]; exact ih h
 | _ => intro _; rfl
theorem qB6 {c : Code} : jQ (fun a => zV a ∈ zZ c) c := by
 induction c with
 | loop a ih => exact ⟨List.mem_cons_self, ih.imp fun x hx => List.mem_cons_of_mem _ hx⟩
 | seq a b iha ihb => exact ⟨iha.imp fun x hx => List.mem_append_left _ hx, ihb.imp fun x hx => List.mem_append_right _ hx⟩
 | cond c a b iha ihb => exact ⟨iha.imp fun x hx => List.mem_append_left _ hx, ihb.imp fun x hx => List.mem_append_right _ hx⟩
 | block i a ih => exact ih
 | _ => trivial
theorem jQ.and {p q : Code -> Prop} : ∀ {c : Code}, jQ p c -> jQ q c -> jQ (fun a => p a /\ q a) c := by
 intro c
 induction c with
 | loop a ih => exact fun h1 h2 => ⟨⟨h1.1, h2.1⟩, ih h1.2 h2.2⟩
 | seq a b iha ihb => exact fun h1 h2 => ⟨iha h1.1 h2.1, ihb h1.2 h2.2⟩
 | cond c a b iha ihb => exact fun h1 h2 => ⟨iha h1.1 h2.1, ihb h1.2 h2.2⟩
 | block i a ih => exact fun h1 h2 => ih h1 h2
 | _ => exact fun _ _ => trivial
theorem qBi {c : Code} (h : (zZ c).Nodup) : jQ (fun a => qT (zV a) c = some a) c := by
 have two : ∀ (a b : Code), ((zZ a) ++ (zZ b)).Nodup -> jQ (fun x => qT (zV x) a = some x) a -> jQ (fun x => qT (zV x) b = some x) b ->
   jQ (fun x => (match qT (zV x) a with | some c => some c | none => qT (zV x) b) = some x) a /\ jQ (fun x => (match qT (zV x) a with | some c => some c | none => qT (zV x) b) = some x) b := by
  intro a b hn ha hb
  refine ⟨ha.imp fun x hx => by rw [hx], (hb.and qB6).imp fun x ⟨hx, hm⟩ => ?_⟩
  have : zV x ∉ zZ a := fun hm' => (List.nodup_append.1 hn).2.2 _ hm' _ hm rfl
  rw [qEm this]; exact hx
 induction c with
 | loop a ih =>
  simp only [zZ, List.nodup_cons] at h
  refine ⟨by simp [qT], ((ih h.2).and qB6).imp fun x ⟨hx, hm⟩ => ?_⟩
  simp only [qT]
  rw [if_neg]
  ·exact hx
  ·intro e; rw [e] at h; exact h.1 hm
 | seq a b iha ihb =>
  have hn := List.nodup_append.1 h
  exact two a b h (iha hn.1) (ihb hn.2.1)
 | cond c a b iha ihb =>
  have hn := List.nodup_append.1 h
  exact two a b h (iha hn.1) (ihb hn.2.1)
 | block i a ih => exact ih h
 | _ => trivial
def zA (p : Code -> Prop) : Code -> Prop
 | .seq a b => p b /\ zA p a /\ zA p b
 | .loop a => zA p a
 | .cond _ a b => zA p a /\ zA p b
 | .block _ a => zA p a
 | _ => True
def vS (d : Nat -> Bool) : Code -> List Nat
 | .seq a b => (if d (jG b) then [jG b] else []) ++ (vS d a ++ vS d b)
 | .loop a => vS d a
 | .cond _ a b => vS d a ++ vS d b
 | .block _ a => vS d a
 | _ => []
theorem zA.imp {p q : Code -> Prop} (h : ∀ a, p a -> q a) : ∀ {c : Code}, zA p c -> zA q c := by
 intro c
 induction c with
 | loop a ih => exact fun hp => ih hp
 | seq a b iha ihb => exact fun hp => ⟨h b hp.1, iha hp.2.1, ihb hp.2.2⟩
 | cond c a b iha ihb => exact fun hp => ⟨iha hp.1, ihb hp.2⟩
 | block i a ih => exact fun hp => ih hp
 | _ => exact fun _ => trivial
theorem qFD {d : Nat -> Bool} {k : Nat} (hk : d k = true) : ∀ {c : Code}, k ∉ vS d c -> qY k c = none := by
 intro c
 induction c with
 | loop a ih => intro h; simp only [qY]; exact ih h
 | seq a b iha ihb =>
  intro h
  simp only [vS, List.mem_append, not_or] at h
  simp only [qY]
  rw [if_neg, iha h.2.1, ihb h.2.2]
  intro e
  rw [e, if_pos hk] at h
  exact h.1 List.mem_cons_self
 | cond c a b iha ihb =>
  intro h
  simp only [vS, List.mem_append, not_or] at h
  simp only [qY, iha h.1, ihb h.2]
 | block i a ih => intro h; simp only [qY]; exact ih h
 | _ => intro _; rfl
theorem qAL {d : Nat -> Bool} {c : Code} : zA (fun b => d (jG b) = true -> jG b ∈ vS d c) c := by
 induction c with
 | loop a ih => exact ih
 | seq a b iha ihb =>
  refine ⟨fun h => ?_, iha.imp fun x hx h => ?_, ihb.imp fun x hx h => ?_⟩
  ·simp only [vS, if_pos h]; exact List.mem_append_left _ List.mem_cons_self
  ·exact List.mem_append_right _ (List.mem_append_left _ (hx h))
  ·exact List.mem_append_right _ (List.mem_append_right _ (hx h))
 | cond c a b iha ihb => exact ⟨iha.imp fun x hx h => List.mem_append_left _ (hx h), ihb.imp fun x hx h => List.mem_append_right _ (hx h)⟩
 | block i a ih => exact ih
 | _ => trivial
theorem zA.and {p q : Code -> Prop} : ∀ {c : Code}, zA p c -> zA q c -> zA (fun a => p a /\ q a) c := by
 intro c
 induction c with
 | loop a ih => exact fun h1 h2 => ih h1 h2
 | seq a b iha ihb => exact fun h1 h2 => ⟨⟨h1.1, h2.1⟩, iha h1.2.1 h2.2.1, ihb h1.2.2 h2.2.2⟩
 | cond c a b iha ihb => exact fun h1 h2 => ⟨iha h1.1 h2.1, ihb h1.2 h2.2⟩
 | block i a ih => exact fun h1 h2 => ih h1 h2
 | _ => exact fun _ _ => trivial
theorem qB5 {d : Nat -> Bool} {c : Code} (h : (vS d c).Nodup) : zA (fun b => d (jG b) = true -> qY (jG b) c = some b) c := by
 have two : ∀ (a b : Code), ((vS d a) ++ (vS d b)).Nodup -> zA (fun x => d (jG x) = true -> qY (jG x) a = some x) a -> zA (fun x => d (jG x) = true -> qY (jG x) b = some x) b ->
   zA (fun x => d (jG x) = true -> (match qY (jG x) a with | some c => some c | none => qY (jG x) b) = some x) a /\ zA (fun x => d (jG x) = true -> (match qY (jG x) a with | some c => some c | none => qY (jG x) b) = some x) b := by
  intro a b hn ha hb
  refine ⟨ha.imp fun x hx h => by rw [hx h], (hb.and (qAL (d := d))).imp fun x ⟨hx, hm⟩ h => ?_⟩
  have : jG x ∉ vS d a := fun hm' => (List.nodup_append.1 hn).2.2 _ hm' _ (hm h) rfl
  rw [qFD h this]; exact hx h
 induction c with
 | loop a ih => exact ih h
 | seq a b iha ihb =>
  simp only [vS] at h
  have h2 := (List.nodup_append.1 h).2.1
  have hn := List.nodup_append.1 h2
  obtain ⟨t1, t2⟩ := two a b h2 (iha hn.1) (ihb hn.2.1)
  have apart : ∀ x, d (jG x) = true -> jG x ∈ vS d a ++ vS d b -> ¬ jG b = jG x := by
   intro x h0 hm e
   have hb0 : d (jG b) = true := by rw [e]; exact h0
   refine (List.nodup_append.1 h).2.2 (jG b) ?_ (jG x) hm e
   rw [if_pos hb0]; exact List.mem_cons_self
  refine ⟨fun _ => by simp [qY], (t1.and (qAL (d := d))).imp fun x ⟨hx, hm⟩ h0 => ?_, (t2.and (qAL (d := d))).imp fun x ⟨hx, hm⟩ h0 => ?_⟩
  ·simp only [qY]
   rw [if_neg (apart x h0 (List.mem_append_left _ (hm h0)))]; exact hx h0
  ·simp only [qY]
   rw [if_neg (apart x h0 (List.mem_append_right _ (hm h0)))]; exact hx h0
 | cond c a b iha ihb =>
  have hn := List.nodup_append.1 h
  exact two a b h (iha hn.1) (ihb hn.2.1)
 | block i a ih => exact ih h
 | _ => trivial
section
variable {P : Program} {C : Ctx}
theorem qQo {φ : Fix} {K K' : X -> St -> Prop} (h : ∀ x s, K x s -> K' x s) (e : Exit) (a : Act) (w : World) (hq : QK φ K e a w) : QK φ K' e a w := by
 cases e with
 | normal => exact hq.imp (h _)
 | exit i => exact hq.imp (h _)
 | ret => exact hq.imp (h _)
 | _ => exact hq
theorem qJ1 (hC : jK P C) (hm : P.follows .mixedOrders = true) {call : CallF} (hcall : xI P C call) {nt : Nat} {fi : Fi} {c0 : Code} {lp : kW} (hlp : qKE P nt fi c0 lp) {φ : Fix} (hN : nt <= φ.N) :
  ∀ (c : Code), jQ (fun x => qT (zV x) c0 = some x) c -> zA (fun b => (qL (1000000 + jG b) fi.loops).isSome = true -> qY (jG b) c0 = some b) c -> ∀ (ρ : Env) (st : St) (a : Act) (w : World) (K : X -> St -> Prop), Rep φ ρ st a w -> evC C call nt fi lp c st K -> c.wp P (QK φ K) a w := by
 intro c
 induction c with
 | skip => intro _ _ ρ st a w K h he; exact wp_skip ⟨ρ, st, h, he⟩
 | region id ops draw =>
  intro _ _ ρ st a w K h he
  unfold evC at he
  split at he
  ·exact he.elim
  ·rename_i hd
   have hds : ∀ (i : Nat) o s, ops[i]? = some o -> o.dst = some s -> s < φ.N := by
    intro i o s ho hs
    have := Array.all_eq_true_iff_forall_mem.1 hd o (Array.mem_of_getElem? ho)
    rw [hs] at this
    simp only [decide_eq_true_eq] at this
    exact Nat.lt_of_lt_of_le this hN
   cases draw with
   | false =>
    simp only [Bool.false_eq_true, if_false] at he
    exact wp_region (qHL hC hcall hds (fun a w h => h) _ h he)
   | true =>
    simp only [if_true] at he
    split at he
    ·rename_i hn
     refine wp_region_any hm (qDp (C := C) _ _ _ _ ?_)
     exact qEq hC hcall hds hn (fun a w h => h) (fun c a w h => h) ops.size (qBn.none ops ops.size) (h.grows (jO.draw w)) he
    ·exact he.elim
 | seq a b iha ihb =>
  intro hl hs ρ st ac w K h he
  unfold evC at he
  refine wp_seq (wp_mono (iha hl.1 hs.2.1 ρ st ac w _ h he) fun e a' w' hq => ?_)
  cases e with
  | normal =>
   obtain ⟨ρ', st', h', he'⟩ := hq
   simp only at he'
   split at he'
   ·exact ihb hl.2 hs.2.2 ρ' st' a' w' K h' he'
   ·rename_i li hli
    have h0 : (qL (1000000 + jG b) fi.loops).isSome = true := by rw [hli]; rfl
    obtain ⟨ρ2, st2, h2, he2⟩ := wP h' he'
    exact hlp.1 b h0 (hs.1 h0) φ ρ2 st2 a' w' K h2 hN he2
  | exit i => exact hq
  | ret => exact hq
  | goto l => exact hq.elim
  | panic c => exact hq.elim
  | outgrown => exact hq.elim
 | cond c a b iha ihb =>
  intro hl hs ρ st ac w K h he
  unfold evC at he
  split at he
  ·rename_i t hx
   have hv : ac.eval c = .bool t := qW h hx
   refine wp_cond hv ?_
   have go : ∀ (st' : St), Rep φ ρ st' ac w -> (if t = true then evC C call nt fi lp a st' K else evC C call nt fi lp b st' K) -> (if t = true then a else b).wp P (QK φ K) ac w := by
    intro st' h' he'
    cases t with
    | true => exact iha hl.1 hs.1 ρ st' ac w K h' he'
    | false => exact ihb hl.2 hs.2 ρ st' ac w K h' he'
   split at he
   ·rename_i s
    have hq := h.slots s _ hx
    cases t with
    | true =>
     simp only [if_true] at he ⊢
     exact iha hl.1 hs.1 ρ _ ac w K (h.reset hq.1 hq.2) he
    | false =>
     simp only [Bool.false_eq_true, if_false] at he ⊢
     exact ihb hl.2 hs.2 ρ _ ac w K (h.reset hq.1 hq.2) he
   ·exact go st h he
  ·exact he.elim
 | block id a iha =>
  intro hl hs ρ st ac w K h he
  unfold evC at he
  refine wp_block (wp_mono (iha hl hs ρ st ac w _ h he) fun e a' w' hq => ?_)
  cases e with
  | normal => exact hq
  | exit j =>
   obtain ⟨ρ', st', h', he'⟩ := hq
   simp only [Exit.inBlock]
   simp only at he'
   split
   ·rename_i hj; rw [if_pos hj] at he'; exact ⟨ρ', st', h', he'⟩
   ·rename_i hj; rw [if_neg hj] at he'; exact ⟨ρ', st', h', he'⟩
  | ret => exact hq
  | goto l => exact hq.elim
  | panic c => exact hq.elim
  | outgrown => exact hq.elim
 | loop a iha =>
  intro hl hs ρ st ac w K h he
  unfold evC at he
  split at he
  ·exact he.elim
  rename_i hlt
  split at he
  ·rename_i li hli
   obtain ⟨ρ', st', h', he'⟩ := wP h he
   exact (hlp.2 a (Nat.not_le.1 hlt) hl.1 φ ρ' st' ac w K h' hN he').loop
  ·exact he.elim
 | exit id => intro _ _ ρ st a w K h he; exact wp_exit ⟨ρ, st, h, he⟩
 | ret => intro _ _ ρ st a w K h he; exact wp_ret ⟨ρ, st, h, he⟩
 | _ => intro _ _ ρ st a w K h he; exact he.elim
end
def Env.onW (ρ : Env) (o : Nat -> Prop) : Env := { ρ with on := o }
theorem qI.onW {φ : Fix} {ρ : Env} {st : St} {w : World} {B : Nat -> Prop} {o : Nat -> Prop} (h : qI φ ρ st w B) : qI φ (ρ.onW o) st w B := ⟨h.row, h.box, h.here⟩
theorem qI.offW {φ : Fix} {ρ : Env} {st : St} {w : World} {B : Nat -> Prop} {o : Nat -> Prop} (h : qI φ (ρ.onW o) st w B) : qI φ ρ st w B := ⟨h.row, h.box, h.here⟩
theorem qIb {F : Nat -> Prop} {w : World} : ∀ {t : Ty} {M : Nat} {x : t.T} {off : Nat} {e : TypeId} {u : Ty} {l : List u.T} {B : Nat -> Prop} {vs : List Value}, t.slAt x off = some ⟨e, u, l⟩ -> qJ F w t M x B vs ->
  ∃ Bx v, (∀ y, Bx y -> B y) /\ vs[off]? = some v /\ qJ F w (.sl e u) M l Bx [v] /\
   ∀ (F' : Nat -> Prop) (w' : World) (e' : TypeId) (u' : Ty) (l' : List u'.T) (Bx' : Nat -> Prop) (x' : t.T), (∀ y, F y -> F' y) -> qC F w w' -> qC (fun y => B y /\ ¬ Bx y) w w' -> qJ F' w' (.sl e' u') M l' Bx' [v] ->
    (∀ y, Bx' y -> ¬ (B y /\ ¬ Bx y)) -> t.slSet x off e' u' l' = some x' -> qJ F' w' t M x' (fun y => (B y /\ ¬ Bx y) \/ Bx' y) vs := by
 intro t
 induction t with
 | prod a b iha ihb =>
  intro M x off e u l B vs hat h
  rw [qJ] at h
  obtain ⟨v1, v2, B1, B2, rfl, d1, d2, h1, h2⟩ := h
  have hl := jB h1
  simp only [Ty.slAt] at hat
  by_cases ho : off < a.sz
  ·rw [if_pos ho] at hat
   obtain ⟨Bx, v, g1, g2, g3, g4⟩ := iha hat h1
   refine ⟨Bx, v, fun y hy => (d1 y (g1 y hy)).1, by rw [List.getElem?_append_left (by omega)]; exact g2, g3, ?_⟩
   intro F' w' e' u' l' Bx' x' hF ha hb ho' hd hset
   simp only [Ty.slSet] at hset
   rw [if_pos ho] at hset
   cases hr : a.slSet x.1 off e' u' l' with
   | none => simp [hr] at hset
   | some x1 =>
    simp only [hr, Option.map_some, Option.some.injEq] at hset
    subst hset
    have k1 := g4 F' w' e' u' l' Bx' x1 hF ha (hb.mono fun y hy => ⟨(d1 y hy.1).1, hy.2⟩) ho' (fun y hy hh => hd y hy ⟨(d1 y hh.1).1, hh.2⟩) hr
    have n2 : ∀ y, B2 y -> ¬ Bx y := fun y hy hx => (d1 y (g1 y hx)).2 hy
    rw [qJ]
    refine ⟨v1, v2, _, B2, rfl, fun y hy => ?_, fun y hy => .inl ⟨d2 y hy, n2 y hy⟩, k1, jA hF ha (hb.mono fun y hy => ⟨d2 y hy, n2 y hy⟩) h2⟩
    rcases hy with hy | hy
    ·exact ⟨.inl ⟨(d1 y hy.1).1, hy.2⟩, (d1 y hy.1).2⟩
    ·exact ⟨.inr hy, fun h2' => hd y hy ⟨d2 y h2', n2 y h2'⟩⟩
  ·rw [if_neg ho] at hat
   obtain ⟨Bx, v, g1, g2, g3, g4⟩ := ihb hat h2
   refine ⟨Bx, v, fun y hy => d2 y (g1 y hy), by rw [List.getElem?_append_right (by omega), hl]; exact g2, g3, ?_⟩
   intro F' w' e' u' l' Bx' x' hF ha hb ho' hd hset
   simp only [Ty.slSet] at hset
   rw [if_neg ho] at hset
   cases hr : b.slSet x.2 (off - a.sz) e' u' l' with
   | none => simp [hr] at hset
   | some x2 =>
    simp only [hr, Option.map_some, Option.some.injEq] at hset
    subst hset
    have k2 := g4 F' w' e' u' l' Bx' x2 hF ha (hb.mono fun y hy => ⟨d2 y hy.1, hy.2⟩) ho' (fun y hy hh => hd y hy ⟨d2 y hh.1, hh.2⟩) hr
    have n1 : ∀ y, B1 y -> ¬ Bx y := fun y hy hx => (d1 y hy).2 (g1 y hx)
    rw [qJ]
    refine ⟨v1, v2, B1, _, rfl, fun y hy => ⟨.inl ⟨(d1 y hy).1, n1 y hy⟩, ?_⟩, fun y hy => ?_, jA hF ha (hb.mono fun y hy => ⟨(d1 y hy).1, n1 y hy⟩) h1, k2⟩
    ·rintro (hh | hh)
     ·exact (d1 y hy).2 hh.1
     ·exact hd y hh ⟨(d1 y hy).1, n1 y hy⟩
    ·rcases hy with hy | hy
     ·exact .inl ⟨d2 y hy.1, hy.2⟩
     ·exact .inr hy
 | sl e0 t0 _ =>
  intro M x off e u l B vs hat h
  simp only [Ty.slAt] at hat
  split at hat
  ·rename_i h0
   simp only [Option.some.injEq, Sigma.mk.injEq] at hat
   obtain ⟨rfl, hat⟩ := hat
   obtain ⟨rfl, hat⟩ := (Sigma.mk.injEq ..).mp (eq_of_heq hat)
   obtain rfl := eq_of_heq hat
   have hlen := jB h
   match vs, hlen with
   | [v], _ =>
    refine ⟨B, v, fun _ h => h, by rw [h0]; rfl, h, ?_⟩
    intro F' w' e' u' l' Bx' x' hF ha hb ho' hd hset
    simp only [Ty.slSet, h0, true_and] at hset
    split at hset
    ·rename_i he
     subst he
     split at hset
     ·rename_i hu
      subst hu
      simp only [Option.some.injEq] at hset
      subst hset
      exact zP (fun y hy => .inr hy) ho'
     ·cases hset
    ·cases hset
  ·cases hat
 | _ => intro M x off e u l B vs hat; simp [Ty.slAt] at hat
theorem qJa {F : Nat -> Prop} {w : World} {er : TypeId} {t : Ty} {M : Nat} {L : List t.T} {B : Nat -> Prop} {v : Value} {b n c i off : Nat} {e : TypeId} {u : Ty} {l : List u.T}
  (h : qJ F w (.sl er t) (M + 1) L B [v]) (hv : xP v b n c) (hi : i < n) (hat : t.slAt (nth t L i) off = some ⟨e, u, l⟩) :
  ∃ Bx v', (∀ y, Bx y -> B y) /\ w.cell? ⟨b, i * t.sz + off, none⟩ = some v' /\ qJ F w (.sl e u) M l Bx [v'] /\
   ∀ (F' : Nat -> Prop) (w' : World) (e' : TypeId) (u' : Ty) (l' : List u'.T) (Bx' : Nat -> Prop) (x' : t.T), (∀ y, F y -> F' y) -> qC F w w' -> qC (fun y => B y /\ ¬ Bx y) w w' -> qJ F' w' (.sl e' u') M l' Bx' [v'] ->
    (∀ y, Bx' y -> ¬ (B y /\ ¬ Bx y)) -> t.slSet (nth t L i) off e' u' l' = some x' -> qJ F' w' (.sl er t) (M + 1) (L.set i x') (fun y => (B y /\ ¬ Bx y) \/ Bx' y) [v] := by
 rw [qJ] at h
 obtain ⟨v0, e1, a, cc, e2, hh⟩ := h
 simp only [List.cons.injEq, and_true] at e1
 subst e1
 rw [xP] at hv
 rw [hv] at e2
 simp only [Value.slice.injEq] at e2
 obtain ⟨rfl, rfl, rfl⟩ := e2
 rcases hh with ⟨h0, _⟩ | ⟨b', arr, fr, e3, h2, h3, h4, h5, h6, Bs, h7, h8, h9⟩
 ·rw [h0] at hi; simp at hi
 simp only [Option.some.injEq, Addr.mk.injEq, and_true] at e3
 subst e3
 obtain ⟨vs, g1, g2⟩ := h9 i hi
 rw [wQ hi] at hat ⊢
 obtain ⟨Bx, v', k1, k2, k3, k4⟩ := qIb hat g2
 have bn : ¬ Bx b := fun hx => (h7 i b hi (k1 b hx)).2 rfl
 refine ⟨Bx, v', fun y hy => (h7 i y hi (k1 y hy)).1, ?_, k3, ?_⟩
 ·obtain ⟨hj, hje⟩ := List.getElem?_eq_some_iff.1 k2
  have := g1 off hj
  rw [hje] at this
  exact this
 ·intro F' w' e' u' l' Bx' x' hF ha hb ho' hd hset
  have hnew := k4 F' w' e' u' l' Bx' x' hF ha (hb.mono fun y hy => ⟨(h7 i y hi hy.1).1, hy.2⟩) ho' (fun y hy hh => hd y hy ⟨(h7 i y hi hh.1).1, hh.2⟩) hset
  have nB : ∀ j y, j < L.length -> j ≠ i -> Bs j y -> ¬ Bx y := fun j y hj hji hy hx => hji (h8 j i y hj hi hy (k1 y hx))
  rw [qJ]
  refine ⟨v, rfl, _, c, by rw [hv]; simp, .inr ⟨b, arr, fr, rfl, hb b _ ⟨h6, bn⟩ h2, h3, h4, by simpa using h5, .inl ⟨h6, bn⟩, fun j y => if j = i then (Bs i y /\ ¬ Bx y) \/ Bx' y else Bs j y, ?_, ?_, ?_⟩⟩
  ·intro j y hj hy
   simp only [List.length_set] at hj
   split at hy
   ·rcases hy with hy | hy
    ·exact ⟨.inl ⟨(h7 i y hi hy.1).1, hy.2⟩, (h7 i y hi hy.1).2⟩
    ·exact ⟨.inr hy, by rintro rfl; exact hd y hy ⟨h6, bn⟩⟩
   ·rename_i hji
    exact ⟨.inl ⟨(h7 j y hj hy).1, nB j y hj hji hy⟩, (h7 j y hj hy).2⟩
  ·intro j k y hj hk hy hy'
   simp only [List.length_set] at hj hk
   by_cases hji : j = i <;> by_cases hki : k = i
   ·rw [hji, hki]
   ·rw [if_pos hji] at hy
    rw [if_neg hki] at hy'
    rcases hy with hy | hy
    ·exact absurd (h8 k i y hk hi hy' hy.1) hki
    ·exact absurd ⟨(h7 k y hk hy').1, nB k y hk hki hy'⟩ (hd y hy)
   ·rw [if_neg hji] at hy
    rw [if_pos hki] at hy'
    rcases hy' with hy' | hy'
    ·exact absurd (h8 j i y hj hi hy hy'.1) hji
    ·exact absurd ⟨(h7 j y hj hy).1, nB j y hj hji hy⟩ (hd y hy')
   ·rw [if_neg hji] at hy
    rw [if_neg hki] at hy'
    exact h8 j k y hj hk hy hy'
  ·intro j hj
   simp only [List.length_set] at hj
   obtain ⟨us, q1, q2⟩ := h9 j hj
   by_cases hji : j = i
   ·subst hji
    have : us = vs := by
     have e1 := jB q2
     have e2 := jB g2
     apply List.ext_getElem (by omega)
     intro k hk hk'
     have := (q1 k hk).symm.trans (g1 k hk')
     simpa using this
    refine ⟨vs, hb.cellsAt ⟨h6, bn⟩ g1, ?_⟩
    simp only [if_true, List.getElem_set_self]
    exact hnew
   ·refine ⟨us, hb.cellsAt ⟨h6, bn⟩ q1, ?_⟩
    rw [List.getElem_set_ne (Ne.symm hji)]
    simp only [if_neg hji]
    exact jA hF ha (hb.mono fun y hy => ⟨(h7 j y hj hy).1, nB j y hj hji hy⟩) q2
section
variable {φ : Fix} {ρ : Env} {st : St} {a : Act} {w : World}
theorem Rep.lendRow (h : Rep φ ρ st a w) (d : Nat) : Rep φ (ρ.off d) { st.kill (CV.nested d) with rows := del d st.rows } a w := by
 have m : ∀ c : CV, c.says (CV.nested d) = false -> jM ρ (ρ.off d) w w c := fun c hc =>
  ⟨fun _ h => h, qC.refl _ _, fun _ _ => ⟨rfl, rfl⟩, fun e he ho => ⟨⟨(by rintro rfl; rw [he] at hc; cases hc), ho⟩, fun _ _ _ _ _ => qC.refl _ _⟩, fun _ _ => rfl⟩
 have hbx : ∀ {b x}, qL b (st.kill (CV.nested d)).boxes = some x -> ∃ y, qL b st.boxes = some y /\ y.ro = x.ro := fun hx => by
  obtain ⟨y, hy, e⟩ := qK hx; exact ⟨y, hy, by rw [e]⟩
 have hr : ∀ {e r}, qL e (del d st.rows) = some r -> e ≠ d /\ qL e st.rows = some r := fun {e r} hr => by
  rw [wL] at hr
  split at hr
  ·cases hr
  ·rename_i hn; exact ⟨hn, hr⟩
 exact {
  size := h.size, nodef := h.nodef
  on := fun e he => by
   obtain ⟨r, hr⟩ := h.on e he.2
   exact ⟨r, by simp only [wL, if_neg he.1]; exact hr⟩
  slots := h.slots_kill m
  rows := fun e r he => h.rows e r (hr he).2
  boxes := h.boxes_kill m fun _ _ _ => ⟨rfl, rfl⟩
  rsep := fun e e' r r' h1 h2 => h.rsep e e' r r' (hr h1).2 (hr h2).2
  rF := fun e r h1 => h.rF e r (hr h1).2
  rb := fun e r b x h1 h2 => by obtain ⟨y, hy, _⟩ := hbx h2; exact h.rb e r b y (hr h1).2 hy
  bsep := fun b b' x x' hx hx' hn => by obtain ⟨y, hy, _⟩ := hbx hx; obtain ⟨y', hy', _⟩ := hbx hx'; exact h.bsep b b' y y' hy hy' hn
  bF := fun b x hx => by obtain ⟨y, hy, e⟩ := hbx hx; rw [<- e]; exact h.bF b y hy
  Fbd := h.Fbd, F0 := h.F0, grow := h.grow, io := h.io, tab := h.tab, keep := h.keep, lentR := h.lentR, lentB := h.lentB }
structure qDj (st st' : St) : Prop where
 rows : ∀ d r, qL d st'.rows = some r -> qL d st.rows = some r
 boxes : ∀ b x, qL b st'.boxes = some x -> ∃ y, qL b st.boxes = some y
theorem qDj.refl (st : St) : qDj st st := ⟨fun _ _ h => h, fun b x h => ⟨x, h⟩⟩
theorem qDj.trans {st st' st'' : St} (h : qDj st st') (h' : qDj st' st'') : qDj st st'' :=
 ⟨fun d r hr => h.rows d r (h'.rows d r hr), fun b x hx => by obtain ⟨y, hy⟩ := h'.boxes b x hx; exact h.boxes b y hy⟩
theorem qI.fewer {st' : St} {B : Nat -> Prop} (h : qI φ ρ st w B) (hf : qDj st st') : qI φ ρ st' w B :=
 ⟨fun d r hr => h.row d r (hf.rows d r hr), fun b x hx => by obtain ⟨y, hy⟩ := hf.boxes b x hx; exact h.box b y hy, h.here⟩
theorem qIq {p : CV -> Bool} {rows : List (Nat × Row)} (hr : ∀ d r, qL d rows = some r -> qL d st.rows = some r) : qDj st { st.kill p with rows := rows } :=
 ⟨hr, fun b x hx => by obtain ⟨y, hy, _⟩ := qK (st := st) hx; exact ⟨y, hy⟩⟩
theorem vH {d e : Nat} {α : Type} {l : List (Nat × α)} {r : α} (h : qL e (del d l) = some r) : e ≠ d /\ qL e l = some r := by
 rw [wL] at h
 split at h
 ·cases h
 ·rename_i hn; exact ⟨hn, h⟩
theorem qAK {F G : Nat -> Prop} {c : CV} {v : Value} (hp : c.plain = true) (hF : ∀ y, ρ.F y -> F y) (h : CVR ρ w c v) : BC0 F w c G v := by
 cases c with
 | row r => simp [CV.plain, CV.plain0] at hp
 | _ => exact ⟨hp, jP (yZ hp hF (qC.refl _ _)) h⟩
theorem qGv {F G : Nat -> Prop} {e : TypeId} {t : Ty} {v : Value} (h : CVR ρ w (.emp e t) v) : BC0 F w (.row { e := e, t := t, l := [], m := 99 }) G v := by
 obtain ⟨A, rfl⟩ := (h : zQ ρ w (.emp e t) v)
 refine ⟨.inl rfl, zJ.mk rfl ?_, fun hh => absurd rfl hh⟩
 show qJ F w (.sl e t) (98 + 1) [] G _
 rw [qJ]
 exact ⟨_, rfl, A, 0, rfl, .inl ⟨rfl, rfl⟩⟩
theorem qGd {F : Nat -> Prop} (h : Rep φ ρ st a w) {d : Nat} {r : Row} (hr : st.rowM? d = some r) (hF : ∀ y, ρ.F y -> F y) : BC0 F w (.row r) (ρ.ft d) (ρ.val d) := by
 obtain ⟨p1, p2, p3, p4⟩ := h.rows d r (zY hr).1
 exact ⟨(zY hr).2, vO hF (qC.refl _ _) (qC.refl _ _) p3, p4⟩
structure vJ (φ : Fix) (ρ : Env) (st st' : St) (a : Act) (w : World) (B : Nat -> Prop) : Prop where
 rep : ∃ o, Rep φ (ρ.onW o) st' a w
 fewer : qDj st st'
 apart : qI φ ρ st' w B
 src : ∀ y, B y -> (∃ d r, qL d st.rows = some r /\ ρ.ft d y) \/ ∃ b x, qL b st.boxes = some x /\ ρ.blk b = y
theorem vJ.none {o : Nat -> Prop} (h : Rep φ (ρ.onW o) st a w) : vJ φ ρ st st a w (fun _ => False) := ⟨⟨o, h⟩, qDj.refl st, qI.none _ _ _ _, fun _ h => h.elim⟩
theorem vJ.new {st' : St} {B B0 : Nat -> Prop} (h : vJ φ ρ st st' a w B) (h0 : qI φ ρ st w B0) : ∀ y, B0 y -> ¬ B y := by
 intro y hy hb
 rcases h.src y hb with ⟨d, r, hd, hf⟩ | ⟨b, x, hb', rfl⟩
 ·exact h0.row d r hd y hf hy
 ·exact h0.box b x hb' hy
theorem vJ.trans {st' st'' : St} {B1 B2 : Nat -> Prop} (h : vJ φ ρ st st' a w B1) (h' : vJ φ ρ st' st'' a w B2) : vJ φ ρ st st'' a w (fun y => B1 y \/ B2 y) /\ ∀ y, B1 y -> ¬ B2 y := by
 refine ⟨⟨h'.rep, h.fewer.trans h'.fewer, (h.apart.fewer h'.fewer).or h'.apart, fun y hy => ?_⟩, h'.new h.apart⟩
 rcases hy with hy | hy
 ·exact h.src y hy
 ·rcases h'.src y hy with ⟨d, r, hd, hf⟩ | ⟨b, x, hb, e⟩
  ·exact .inl ⟨d, r, h.fewer.rows d r hd, hf⟩
  ·obtain ⟨x', hx'⟩ := h.fewer.boxes b x hb; exact .inr ⟨b, x', hx', e⟩
theorem vJ.lend {o : Nat -> Prop} (h : Rep φ (ρ.onW o) st a w) {d : Nat} {r : Row} (hd : qL d st.rows = some r) : vJ φ ρ st { st.kill (CV.nested d) with rows := del d st.rows } a w (ρ.ft d) where
 rep := ⟨_, h.lendRow d⟩
 fewer := qIq fun e r' he => (vH he).2
 apart := ⟨fun e r' he y hy hy' => by obtain ⟨hn, he⟩ := vH he; exact h.rsep e d r' r he hd hn y hy hy',
  fun b x hx => by obtain ⟨y, hy, _⟩ := qK (st := st) hx; exact h.rb d r b y hd hy, fun y hy => h.rF d r hd y hy⟩
 src := fun y hy => .inl ⟨d, r, hd, hy⟩
theorem vJ.give {o : Nat -> Prop} (h : Rep φ (ρ.onW o) st a w) {d : Nat} {r : Row} (hd : qL d st.rows = some r) : vJ φ ρ st (st.dropRow d) a w (ρ.ft d) where
 rep := ⟨_, h.dropRow d⟩
 fewer := ⟨fun e r' he => (vH (l := st.rows) he).2, fun b x hx => by obtain ⟨y, hy, _⟩ := qK (st := st) hx; exact ⟨y, hy⟩⟩
 apart := (h.take hd).offW.offW
 src := fun y hy => .inl ⟨d, r, hd, hy⟩
theorem yD {o0 : Nat -> Prop} {F : Nat -> Prop} (hF : ∀ y, ρ.F y -> F y) : ∀ {cs cs' : List CV} {vs : List Value} {st st' : St} {o : Nat -> Prop}, Rep φ (ρ.onW o) st a w -> jC (CVR (ρ.onW o0) w) cs vs -> zG st cs = some (cs', st') ->
  ∃ B, vJ φ ρ st st' a w B /\ Sep (BC0 F w) cs' B vs /\ ∀ y, B y -> ∃ d r, qL d st.rows = some r /\ ρ.ft d y
 | [], cs', [], st, st', o, h, _, he => by
  simp only [zG, Option.some.injEq, Prod.mk.injEq] at he
  obtain ⟨rfl, rfl⟩ := he
  exact ⟨_, vJ.none h, trivial, fun _ h => h.elim⟩
 | c :: cs, cs', v :: vs, st, st', o, h, ha, he => by
  have plain : c.plain = true -> ∀ {ds : List CV}, zG st cs = some (ds, st') -> cs' = c :: ds -> ∃ B, vJ φ ρ st st' a w B /\ Sep (BC0 F w) cs' B (v :: vs) /\ ∀ y, B y -> ∃ d r, qL d st.rows = some r /\ ρ.ft d y := by
   intro hp ds hds e
   subst e
   obtain ⟨B, t1, s1, r1⟩ := yD hF h ha.2 hds
   exact ⟨B, t1, ⟨fun _ => False, B, fun _ h => h.elim, fun _ h => h, qAK (ρ := ρ.onW o0) hp hF ha.1, s1⟩, r1⟩
  cases c with
  | own d =>
   simp only [zG] at he
   split at he
   ·rename_i r hr
    split at he
    ·rename_i ds st2 h2
     simp only [Option.some.injEq, Prod.mk.injEq] at he
     obtain ⟨rfl, rfl⟩ := he
     have t1 := vJ.lend h (zY hr).1
     obtain ⟨o1, q1⟩ := t1.rep
     obtain ⟨B, t2, s2, r2⟩ := yD hF q1 ha.2 h2
     obtain ⟨t3, d3⟩ := t1.trans t2
     refine ⟨_, t3, ⟨ρ.ft d, B, fun y hy => ⟨.inl hy, d3 y hy⟩, fun y hy => .inr hy, ?_, s2⟩, fun y hy => hy.elim (fun hy => ⟨d, r, (zY hr).1, hy⟩) fun hy => ?_⟩
     ·rw [show v = ρ.val d from ha.1.1]
      exact qGd h hr hF
     ·obtain ⟨e, r', he, hf⟩ := r2 y hy
      exact ⟨e, r', (vH he).2, hf⟩
    ·cases he
   ·cases he
  | emp e t =>
   simp only [zG] at he
   split at he
   ·rename_i ds st2 h2
    simp only [Option.some.injEq, Prod.mk.injEq] at he
    obtain ⟨rfl, rfl⟩ := he
    obtain ⟨B, t1, s1, r1⟩ := yD hF h ha.2 h2
    exact ⟨B, t1, ⟨fun _ => False, B, fun _ h => h.elim, fun _ h => h, qGv ha.1, s1⟩, r1⟩
   ·cases he
  | int k n =>
   simp only [zG] at he
   split at he
   ·rename_i ds st2 h2; simp only [Option.some.injEq, Prod.mk.injEq] at he; obtain ⟨rfl, rfl⟩ := he; exact plain rfl h2 rfl
   ·cases he
  | bool b =>
   simp only [zG] at he
   split at he
   ·rename_i ds st2 h2; simp only [Option.some.injEq, Prod.mk.injEq] at he; obtain ⟨rfl, rfl⟩ := he; exact plain rfl h2 rfl
   ·cases he
  | str s =>
   simp only [zG] at he
   split at he
   ·rename_i ds st2 h2; simp only [Option.some.injEq, Prod.mk.injEq] at he; obtain ⟨rfl, rfl⟩ := he; exact plain rfl h2 rfl
   ·cases he
  | dat e t l =>
   simp only [zG] at he
   split at he
   ·rename_i ds st2 h2; simp only [Option.some.injEq, Prod.mk.injEq] at he; obtain ⟨rfl, rfl⟩ := he; exact plain rfl h2 rfl
   ·cases he
  | pdat e t x off =>
   simp only [zG] at he
   split at he
   ·rename_i ds st2 h2; simp only [Option.some.injEq, Prod.mk.injEq] at he; obtain ⟨rfl, rfl⟩ := he; exact plain rfl h2 rfl
   ·cases he
  | _ => simp [zG] at he
def qDo (ρ : Env) (w : World) (B : Nat -> Prop) : qAP -> (Nat -> Prop) -> Value -> Prop
 | .keep, _, _ => True
 | .row d r, W, v => v = ρ.val d /\ ρ.ty d = r.t
 | .nest d i off r n, W, v => ρ.ty d = r.t /\ r.hole = none /\ (∃ b n c, xP (ρ.val d) b n c) /\ ∀ (F' : Nat -> Prop) (w' : World) (r' : Row) (Bx' : Nat -> Prop) (x' : r.t.T), (∀ y, ρ.F y -> F' y) -> qC ρ.F w w' -> qC (fun y => W y /\ ¬ B y) w w' ->
   qJ F' w' (.sl r'.e r'.t) (r.m - 1) r'.l Bx' [v] -> (∀ y, Bx' y -> ¬ (W y /\ ¬ B y)) -> r.t.slSet (nth r.t r.l i) off r'.e r'.t r'.l = some x' -> qJ F' w' (.sl r.e r.t) r.m (r.l.set i x') (fun y => (W y /\ ¬ B y) \/ Bx' y) [ρ.val d]
 | .box b x, W, v => v = .pointer (some ⟨ρ.blk b, 0, none⟩) /\ x.ro = false
theorem vE {B B' : Nat -> Prop} {l : qAP} {W : Nat -> Prop} {v : Value} (hB : ∀ y, W y -> (B y ↔ B' y)) (h : qDo ρ w B l W v) : qDo ρ w B' l W v := by
 have e : (fun y => W y /\ ¬ B y) = fun y => W y /\ ¬ B' y := funext fun y => propext ⟨fun h => ⟨h.1, fun hb => h.2 ((hB y h.1).2 hb)⟩, fun h => ⟨h.1, fun hb => h.2 ((hB y h.1).1 hb)⟩⟩
 have e2 : ∀ y, (W y /\ ¬ B y) ↔ (W y /\ ¬ B' y) := fun y => by rw [show (W y /\ ¬ B y) = (fun y => W y /\ ¬ B y) y from rfl, e]
 cases l with
 | nest d i off r n =>
  obtain ⟨h1, h2, h3, h4⟩ := h
  refine ⟨h1, h2, h3, fun F' w' r' Bx' x' q1 q2 q3 q4 q5 q6 => ?_⟩
  have := h4 F' w' r' Bx' x' q1 q2 (by rw [e]; exact q3) q4 (fun y hy hh => q5 y hy ((e2 y).1 hh)) q6
  simp only [e2] at this
  exact this
 | _ => exact h
theorem qK6 {o0 : Nat -> Prop} {F : Nat -> Prop} (hF : ∀ y, ρ.F y -> F y) {c c' : CV} {v : Value} {st' : St} {l : qAP} {o : Nat -> Prop} (h : Rep φ (ρ.onW o) st a w) (hc : CVR (ρ.onW o0) w c v) (he : qBE st c = some (c', l, st')) :
  ∃ W B, (∀ y, B y -> W y) /\ vJ φ ρ st st' a w W /\ BC F w c' B v /\ qDo ρ w B l W v := by
 have plain : c.plain = true -> c' = c -> l = .keep -> st' = st -> ∃ W B, (∀ y, B y -> W y) /\ vJ φ ρ st st' a w W /\ BC F w c' B v /\ qDo ρ w B l W v := by
  rintro hp rfl rfl rfl
  exact ⟨_, _, fun _ h => h, vJ.none h, kD (qAK (ρ := ρ.onW o0) hp hF hc), trivial⟩
 cases c with
 | own d =>
  simp only [qBE] at he
  split at he
  ·rename_i r hr
   simp only [Option.some.injEq, Prod.mk.injEq] at he
   obtain ⟨rfl, rfl, rfl⟩ := he
   have hv : v = ρ.val d := hc.1
   subst hv
   exact ⟨ρ.ft d, ρ.ft d, fun _ h => h, vJ.lend h (zY hr).1, kD (qGd h hr hF), rfl, (h.rows d r (zY hr).1).2.1⟩
  ·cases he
 | nref d i off =>
  simp only [qBE] at he
  split at he
  ·rename_i r hr
   split at he
   ·cases he
   ·rename_i hm
    split at he
    ·rename_i s hs
     simp only [Option.some.injEq, Prod.mk.injEq] at he
     obtain ⟨rfl, rfl, rfl⟩ := he
     obtain ⟨⟨_, b, n, c, h1, h2, h3⟩, _, _⟩ := (hc : zQ (ρ.onW o0) w (.nref d i off) v)
     obtain ⟨p1, p2, p3, p4⟩ := h.rows d r (qM hr)
     obtain ⟨M, hM⟩ : ∃ M, r.m = M + 2 := ⟨r.m - 2, by omega⟩
     have p3 := zJ.whole (qN hr) p3
     rw [hM] at p3
     have h1' : xP (ρ.val d) b n c := h1
     have p3' : qJ ρ.F w (.sl r.e r.t) (M + 1 + 1) r.l (ρ.ft d) [ρ.val d] := p3
     obtain ⟨Bx, v', q1, q2, q3, q4⟩ := qJa p3' h1' h2 (show r.t.slAt (nth r.t r.l i) off = some ⟨s.1, s.2.1, s.2.2⟩ from hs)
     have ht : (ρ.onW o0).ty d = r.t := p2
     rw [ht, q2] at h3
     simp only [Option.some.injEq] at h3
     subst h3
     refine ⟨ρ.ft d, Bx, q1, vJ.lend h (qM hr), kD ⟨.inl rfl, zJ.mk rfl ?_, vD (n := M + 1) q3 (by omega)⟩, p2, qN hr, ⟨b, n, c, h1'⟩, ?_⟩
     ·show qJ F w (.sl s.1 s.2.1) (r.m - 1) s.2.2 Bx [v']
      rw [show r.m - 1 = M + 1 by omega]
      exact jA hF (qC.refl _ _) (qC.refl _ _) q3
     ·intro F' w' r' Bx' x' k1 k2 k3 k4 k5 k6
      rw [show r.m - 1 = M + 1 by omega] at k4
      rw [hM]
      exact q4 F' w' r'.e r'.t r'.l Bx' x' k1 k2 k3 k4 k5 k6
    ·cases he
  ·cases he
 | pbox b off =>
  cases off with
  | succ off => simp [qBE] at he
  | zero =>
   simp only [qBE] at he
   split at he
   ·rename_i x hx
    split at he
    ·cases he
    ·rename_i hro
     split at he
     ·rename_i cs st1 h1
      simp only [Option.some.injEq, Prod.mk.injEq] at he
      obtain ⟨rfl, rfl, rfl⟩ := he
      obtain ⟨arr, fr, k1, k2, k3⟩ := h.cellsBox hx
      have hx := (wU hx).1
      obtain ⟨B, t1, s1, r1⟩ := yD hF h k3 h1
      obtain ⟨o1, q1⟩ := t1.rep
      have hro' : x.ro = false := by simpa using hro
      have hnb : ¬ B (ρ.blk b) := fun hb => by
       obtain ⟨d, r, hd, hf⟩ := r1 _ hb
       exact h.rb d r b x hd hx hf
      have hlt : ρ.blk b < w.heap.size := by
       have k1' : w.heap[ρ.blk b]? = some (.cells arr x.e fr) := k1
       rcases Nat.lt_or_ge (ρ.blk b) w.heap.size with h' | h'
       ·exact h'
       ·simp [Array.getElem?_eq_none h'] at k1'
      have hf2 : qDj st1 { st1 with boxes := del b st1.boxes } := ⟨fun _ _ h => h, fun b' x' hx' => ⟨x', (vH hx').2⟩⟩
      refine ⟨fun y => y = ρ.blk b \/ B y, fun y => y = ρ.blk b \/ B y, fun _ h => h, ⟨⟨o1, ?_⟩, t1.fewer.trans hf2, ?_, ?_⟩, ?_, ?_, hro'⟩
      ·exact q1.less q1.on (fun _ _ h => h) (fun _ _ h => h) (fun b' x' hx' => (vH hx').2) (fun _ h => h) (fun _ h => h)
      ·refine qI.or ⟨fun d r hd y hy e => ?_, fun b' x' hx' e => ?_, fun y hy => ?_⟩ (t1.apart.fewer hf2)
       ·subst e; exact h.rb d r b x (t1.fewer.rows d r hd) hx hy
       ·obtain ⟨hn, hx'⟩ := vH hx'
        obtain ⟨x'', hx''⟩ := t1.fewer.boxes b' x' hx'
        exact h.bsep b' b x'' x hx'' hx hn e
       ·subst hy; exact ⟨(h.bF b x hx).1 hro', hlt, (h.bF b x hx).2⟩
      ·intro y hy
       rcases hy with rfl | hy
       ·exact .inr ⟨b, x, hx, rfl⟩
       ·exact t1.src y hy
      ·rw [show v = .pointer (some ⟨ρ.blk b, 0, none⟩) from hc]
       exact ⟨ρ.blk b, arr, fr, B, rfl, k1, k2, .inl rfl, fun y hy => ⟨.inr hy, by rintro rfl; exact hnb hy⟩, s1⟩
      ·exact hc
     ·cases he
   ·cases he
 | emp e t =>
  simp only [qBE, Option.some.injEq, Prod.mk.injEq] at he
  obtain ⟨rfl, rfl, rfl⟩ := he
  exact ⟨_, _, fun _ h => h, vJ.none h, kD (qGv hc), trivial⟩
 | int k n => simp only [qBE, Option.some.injEq, Prod.mk.injEq] at he; obtain ⟨rfl, rfl, rfl⟩ := he; exact plain rfl rfl rfl rfl
 | bool b => simp only [qBE, Option.some.injEq, Prod.mk.injEq] at he; obtain ⟨rfl, rfl, rfl⟩ := he; exact plain rfl rfl rfl rfl
 | str s => simp only [qBE, Option.some.injEq, Prod.mk.injEq] at he; obtain ⟨rfl, rfl, rfl⟩ := he; exact plain rfl rfl rfl rfl
 | dat e t l => simp only [qBE, Option.some.injEq, Prod.mk.injEq] at he; obtain ⟨rfl, rfl, rfl⟩ := he; exact plain rfl rfl rfl rfl
 | pdat e t x off => simp only [qBE, Option.some.injEq, Prod.mk.injEq] at he; obtain ⟨rfl, rfl, rfl⟩ := he; exact plain rfl rfl rfl rfl
 | _ => simp [qBE] at he
theorem qA6 {o0 : Nat -> Prop} {F : Nat -> Prop} (hF : ∀ y, ρ.F y -> F y) : ∀ {cs cs' : List CV} {vs : List Value} {st st' : St} {ls : List qAP} {o : Nat -> Prop}, Rep φ (ρ.onW o) st a w -> jC (CVR (ρ.onW o0) w) cs vs -> qAv st cs = some (cs', ls, st') ->
  ∃ W B, (∀ y, B y -> W y) /\ vJ φ ρ st st' a w W /\ Sep (BC F w) cs' B vs /\ Sep (qDo ρ w B) ls W vs
 | [], cs', [], st, st', ls, o, h, _, he => by
  simp only [qAv, Option.some.injEq, Prod.mk.injEq] at he
  obtain ⟨rfl, rfl, rfl⟩ := he
  exact ⟨_, _, fun _ h => h, vJ.none h, trivial, trivial⟩
 | c :: cs, cs', v :: vs, st, st', ls, o, h, ha, he => by
  simp only [qAv] at he
  split at he
  ·rename_i y l st1 h1
   split at he
   ·rename_i ys ls2 st2 h2
    simp only [Option.some.injEq, Prod.mk.injEq] at he
    obtain ⟨rfl, rfl, rfl⟩ := he
    obtain ⟨W1, B1, i1, t1, c1, l1⟩ := qK6 hF h ha.1 h1
    obtain ⟨o1, q1⟩ := t1.rep
    obtain ⟨W2, B2, i2, t2, c2, l2⟩ := qA6 hF q1 ha.2 h2
    obtain ⟨t3, d3⟩ := t1.trans t2
    refine ⟨_, fun y => B1 y \/ B2 y, fun y hy => hy.imp (i1 y) (i2 y), t3, ⟨B1, B2, fun y hy => ⟨.inl hy, fun hy' => d3 y (i1 y hy) (i2 y hy')⟩, fun y hy => .inr hy, c1, c2⟩,
     ⟨W1, W2, fun y hy => ⟨.inl hy, d3 y hy⟩, fun y hy => .inr hy, vE (fun y hy => ⟨.inl, fun hh => hh.resolve_right fun hb => d3 y hy (i2 y hb)⟩) l1, l2.imp fun l C v hC hl => vE (fun y hy => ⟨.inr, fun hh => hh.resolve_left fun hb => d3 y (i1 y hb) (hC y hy)⟩) hl⟩⟩
   ·cases he
  ·cases he
theorem qFx {o0 : Nat -> Prop} {F : Nat -> Prop} (hF : ∀ y, ρ.F y -> F y) : ∀ {cs cs' : List CV} {vs : List Value} {st st' : St} {o : Nat -> Prop}, Rep φ (ρ.onW o) st a w -> jC (CVR (ρ.onW o0) w) cs vs -> qBY st cs = some (cs', st') ->
  ∃ B, vJ φ ρ st st' a w B /\ Sep (BC0 F w) cs' B vs
 | [], cs', [], st, st', o, h, _, he => by
  simp only [qBY, Option.some.injEq, Prod.mk.injEq] at he
  obtain ⟨rfl, rfl⟩ := he
  exact ⟨_, vJ.none h, trivial⟩
 | c :: cs, cs', v :: vs, st, st', o, h, ha, he => by
  simp only [qBY] at he
  split at he
  ·rename_i y st1 h1
   split at he
   ·rename_i ys st2 h2
    simp only [Option.some.injEq, Prod.mk.injEq] at he
    obtain ⟨rfl, rfl⟩ := he
    have key : ∃ B, vJ φ ρ st st1 a w B /\ BC0 F w y B v := by
     have plain : c.plain = true -> y = c -> st1 = st -> ∃ B, vJ φ ρ st st1 a w B /\ BC0 F w y B v := by
      rintro hp rfl rfl
      exact ⟨_, vJ.none h, qAK (ρ := ρ.onW o0) hp hF ha.1⟩
     cases c with
     | own d =>
      simp only [qEl] at h1
      split at h1
      ·rename_i r hr
       simp only [Option.some.injEq, Prod.mk.injEq] at h1
       obtain ⟨rfl, rfl⟩ := h1
       refine ⟨ρ.ft d, vJ.give h ((zY hr).1), ?_⟩
       rw [show v = ρ.val d from ha.1.1]
       exact qGd h hr hF
      ·cases h1
     | emp e t =>
      simp only [qEl, Option.some.injEq, Prod.mk.injEq] at h1
      obtain ⟨rfl, rfl⟩ := h1
      exact ⟨_, vJ.none h, qGv ha.1⟩
     | int k n => simp only [qEl, Option.some.injEq, Prod.mk.injEq] at h1; obtain ⟨rfl, rfl⟩ := h1; exact plain rfl rfl rfl
     | bool b => simp only [qEl, Option.some.injEq, Prod.mk.injEq] at h1; obtain ⟨rfl, rfl⟩ := h1; exact plain rfl rfl rfl
     | str s => simp only [qEl, Option.some.injEq, Prod.mk.injEq] at h1; obtain ⟨rfl, rfl⟩ := h1; exact plain rfl rfl rfl
     | dat e t l => simp only [qEl, Option.some.injEq, Prod.mk.injEq] at h1; obtain ⟨rfl, rfl⟩ := h1; exact plain rfl rfl rfl
     | pdat e t x off => simp only [qEl, Option.some.injEq, Prod.mk.injEq] at h1; obtain ⟨rfl, rfl⟩ := h1; exact plain rfl rfl rfl
     | _ => simp [qEl] at h1
    obtain ⟨B1, t1, c1⟩ := key
    obtain ⟨o1, q1⟩ := t1.rep
    obtain ⟨B2, t2, c2⟩ := qFx hF q1 ha.2 h2
    obtain ⟨t3, d3⟩ := t1.trans t2
    exact ⟨_, t3, B1, B2, fun y hy => ⟨.inl hy, d3 y hy⟩, fun y hy => .inr hy, c1, c2⟩
   ·cases he
  ·cases he
end
theorem qHq {f : CV -> Rd3 CV} : ∀ {cs cs' : List CV} {ds : List (Nat × Nat)} {bs : List Nat}, qAq f cs = some (cs', ds, bs) -> ∀ c' ∈ cs', ∃ c ∈ cs, ∃ ds' bs', f c = some (c', ds', bs')
 | [], cs', ds, bs, h, c', hc => by simp only [qAq, Option.some.injEq, Prod.mk.injEq] at h; obtain ⟨rfl, _⟩ := h; cases hc
 | c :: cs, cs', ds, bs, h, c', hc => by
  simp only [qAq] at h
  split at h
  ·rename_i y ds1 bs1 hy
   split at h
   ·rename_i ys ds2 bs2 hys
    simp only [Option.some.injEq, Prod.mk.injEq] at h
    obtain ⟨rfl, rfl, rfl⟩ := h
    rcases List.mem_cons.1 hc with rfl | hc
    ·exact ⟨c, List.mem_cons_self, ds1, bs1, hy⟩
    ·obtain ⟨x, hx, q⟩ := qHq hys c' hc
     exact ⟨x, List.mem_cons_of_mem _ hx, q⟩
   ·cases h
  ·cases h
theorem qFj {f : CV -> Rd3 CV} : ∀ {cs cs' : List CV} {ds : List (Nat × Nat)} {bs : List Nat}, qAq f cs = some (cs', ds, bs) -> ∀ c ∈ cs, ∃ c' ds' bs', f c = some (c', ds', bs')
 | [], cs', ds, bs, h, c, hc => by cases hc
 | c :: cs, cs', ds, bs, h, x, hx => by
  simp only [qAq] at h
  split at h
  ·rename_i y ds1 bs1 hy
   split at h
   ·rename_i ys ds2 bs2 hys
    rcases List.mem_cons.1 hx with rfl | hx
    ·exact ⟨y, ds1, bs1, hy⟩
    ·exact qFj hys x hx
   ·cases h
  ·cases h
theorem qDy {st : St} {n : Nat} {c c' : CV} {ds : List (Nat × Nat)} {bs : List Nat} (h : rdC st n c = some (c', ds, bs)) (hn : ∀ f sh k cs, c ≠ .fn f sh k cs) : c'.plain0 = true := by
 cases n with
 | zero => simp [rdC] at h
 | succ n =>
  cases c with
  | fn f sh k cs => exact absurd rfl (hn _ _ _ _)
  | undef => simp [rdC] at h
  | row _ => simp [rdC] at h
  | boxr _ _ => simp [rdC] at h
  | pbox b off =>
   simp only [rdC] at h
   repeat' split at h
   all_goals first
    | (cases h; done)
    | (simp only [Option.some.injEq, Prod.mk.injEq] at h; obtain ⟨rfl, _⟩ := h; rfl)
  | _ =>
   simp only [rdC] at h
   repeat' split at h
   all_goals first
    | (cases h; done)
    | (simp only [Option.some.injEq, Prod.mk.injEq] at h; obtain ⟨rfl, _⟩ := h; rfl)
theorem Shaped.mem {R : CV -> Value -> Prop} : ∀ {sh : List (Bool × Nat)} {cs : List CV} {vs : List Value}, Shaped R sh cs vs -> ∀ c ∈ cs, ∃ v, R c v
 | [], cs, vs, h, c, hc => by obtain ⟨rfl, _⟩ := (by simpa [Shaped] using h : cs = [] /\ vs = []); cases hc
 | (true, k) :: sh, cs, [], h, c, hc => by simp [Shaped] at h
 | (true, k) :: sh, cs, v :: vs, h, c, hc => by
  obtain ⟨arr, e, hk, h1, h2⟩ := h
  rw [<- List.take_append_drop k cs] at hc
  rcases List.mem_append.1 hc with hc | hc
  ·obtain ⟨i, hi⟩ := List.mem_iff_getElem?.1 hc
   obtain ⟨b, _, hb⟩ := h1.get hi
   exact ⟨b, hb⟩
  ·exact Shaped.mem h2 c hc
 | (false, _) :: sh, [], vs, h, c, hc => by cases hc
 | (false, _) :: sh, x :: cs, [], h, c, hc => by simp [Shaped] at h
 | (false, _) :: sh, x :: cs, v :: vs, h, c, hc => by
  rcases List.mem_cons.1 hc with rfl | hc
  ·exact ⟨v, h.1⟩
  ·exact Shaped.mem h.2 c hc
section
variable {φ : Fix} {ρ : Env} {st : St} {a : Act} {w : World}
theorem qJf {n : Nat} {c c' : CV} {v : Value} {ds : List (Nat × Nat)} {bs : List Nat} (hc : CVR ρ w c v) (h : rdC st n c = some (c', ds, bs)) : c'.plain = true := by
 by_cases hf : ∃ f sh k cs, c = .fn f sh k cs
 ·obtain ⟨f, sh, k, cs, rfl⟩ := hf
  cases n with
  | zero => simp [rdC] at h
  | succ n =>
   simp only [rdC] at h
   split at h
   ·rename_i ys ds1 bs1 hy
    simp only [Option.some.injEq, Prod.mk.injEq] at h
    obtain ⟨rfl, _⟩ := h
    obtain ⟨first, caps, _, _, hs⟩ := hc
    simp only [CV.plain, List.all_eq_true]
    intro y hy'
    obtain ⟨x, hx, d', b', hr⟩ := qHq hy y hy'
    obtain ⟨u, hu⟩ := hs.mem x hx
    exact qDy hr (qGR hu)
   ·cases h
 ·have hn : ∀ f sh k cs, c ≠ .fn f sh k cs := fun f sh k cs e => hf ⟨f, sh, k, cs, e⟩
  have := qDy h hn
  cases c' <;> first | exact this | simp [CV.plain0] at this
theorem qLB : ∀ {n : Nat} {c c' : CV} {ds : List (Nat × Nat)} {bs : List Nat}, rdC st n c = some (c', ds, bs) -> ∀ d, c.nested d = true -> ∃ r, qL d st.rows = some r
 | 0, c, c', ds, bs, h, d, hd => by simp [rdC] at h
 | n + 1, c, c', ds, bs, h, d, hd => by
  cases c <;> simp only [CV.nested, Bool.false_eq_true, beq_iff_eq] at hd
  ·subst hd
   simp only [rdC, xL] at h
   split at h
   ·rename_i s hs
    split at hs
    ·rename_i r hr; exact ⟨r, qM hr⟩
    ·cases hs
   ·cases h
  ·subst hd
   simp only [rdC, xL] at h
   split at h
   ·rename_i s hs
    split at hs
    ·rename_i r hr; exact ⟨r, qM hr⟩
    ·cases hs
   ·cases h
theorem qMz {n : Nat} {c c' : CV} {ds : List (Nat × Nat)} {bs : List Nat} (h : rdC st n c = some (c', ds, bs)) : ∀ d, c.says (CV.nested d) = true -> ∃ r, qL d st.rows = some r := by
 intro d hd
 unfold CV.says at hd
 rw [Bool.or_eq_true] at hd
 rcases hd with hd | hd
 ·exact qLB h d hd
 ·cases c with
  | fn f sh k cs =>
   simp only [List.any_eq_true] at hd
   obtain ⟨x, hx, hd⟩ := hd
   cases n with
   | zero => simp [rdC] at h
   | succ n =>
    simp only [rdC] at h
    split at h
    ·rename_i ys ds1 bs1 hy
     obtain ⟨x', d', b', hr⟩ := qFj hy x hx
     exact qLB hr d hd
    ·cases h
  | _ => simp at hd
def St.has (st : St) (d : Nat) : Prop := ∃ r, qL d st.rows = some r
theorem Rep.onAll {o : Nat -> Prop} (h : Rep φ (ρ.onW o) st a w) : Rep φ (ρ.onW st.has) st a w := by
 have m : ∀ c : CV, jM (ρ.onW o) (ρ.onW st.has) w w c := fun c => ⟨fun _ h => h, qC.refl _ _, fun _ _ => ⟨rfl, rfl⟩, fun d _ ho => ⟨h.on d ho, fun _ _ _ _ _ => qC.refl _ _⟩, fun _ _ => rfl⟩
 exact { h with
  on := fun d hd => hd
  slots := fun s v hv => ⟨(h.slots s v hv).1, kF (fun c _ => m c) (h.slots s v hv).2⟩
  boxes := fun b x hx => by obtain ⟨arr, fr, h1, h2, h3⟩ := h.boxes b x hx; exact ⟨arr, fr, h1, h2, h3.imp fun _ _ => jP (m _)⟩
  rows := h.rows, rsep := h.rsep, rF := h.rF, rb := h.rb, bsep := h.bsep, bF := h.bF, Fbd := h.Fbd, F0 := h.F0, lentR := h.lentR, lentB := h.lentB }
theorem qKH {o0 : Nat -> Prop} {n : Nat} {c c' : CV} {v : Value} {ds : List (Nat × Nat)} {bs : List Nat} (hc : CVR (ρ.onW o0) w c v) (h : rdC st n c = some (c', ds, bs)) : CVR (ρ.onW st.has) w c v :=
 jP (ρ := ρ.onW o0) (ρ' := ρ.onW st.has) ⟨fun _ h => h, qC.refl _ _, fun _ _ => ⟨rfl, rfl⟩, fun d hd _ => ⟨qMz h d hd, fun _ _ _ _ _ => qC.refl _ _⟩, fun _ _ => rfl⟩ hc
theorem qP6 {o : Nat -> Prop} {ds : List (Nat × Nat)} {bs : List Nat} {y : Nat} : xO (ρ.onW o) ds bs y ↔ xO ρ ds bs y := Iff.rfl
theorem qJg {o o0 : Nat -> Prop} {F G : Nat -> Prop} {n : Nat} {c c' : CV} {v : Value} {ds : List (Nat × Nat)} {bs : List Nat} (h : Rep φ (ρ.onW o) st a w) (hc : CVR (ρ.onW o0) w c v) (hr : rdC st n c = some (c', ds, bs)) (hF : ∀ y, xO ρ ds bs y -> F y) :
  BC0 F w c' G v :=
 qAK (ρ := (ρ.onW st.has).withF (xO (ρ.onW st.has) ds bs)) (qJf hc hr) hF (qE9 h.onAll n (qKH hc hr) hr).1
theorem qHr {o o0 : Nat -> Prop} {F G : Nat -> Prop} {n : Nat} (h : Rep φ (ρ.onW o) st a w) : ∀ {cs cs' : List CV} {vs : List Value} {ds : List (Nat × Nat)} {bs : List Nat}, jC (CVR (ρ.onW o0) w) cs vs -> qAq (rdC st n) cs = some (cs', ds, bs) ->
  (∀ y, xO ρ ds bs y -> F y) -> Sep (BC0 F w) cs' G vs
 | [], cs', [], ds, bs, _, hr, _ => by simp only [qAq, Option.some.injEq, Prod.mk.injEq] at hr; obtain ⟨rfl, _⟩ := hr; trivial
 | c :: cs, cs', v :: vs, ds, bs, ha, hr, hF => by
  simp only [qAq] at hr
  split at hr
  ·rename_i y ds1 bs1 hy
   split at hr
   ·rename_i ys ds2 bs2 hys
    simp only [Option.some.injEq, Prod.mk.injEq] at hr
    obtain ⟨rfl, rfl, rfl⟩ := hr
    exact ⟨fun _ => False, G, fun _ h => h.elim, fun _ h => h, qJg h ha.1 hy fun y hy => hF y (qAX y hy), qHr h ha.2 hys fun y hy => hF y (kM y hy)⟩
   ·cases hr
  ·cases hr
theorem qNz {o o0 : Nat -> Prop} {F G : Nat -> Prop} {s s' : SV} {v : Value} {ds : List (Nat × Nat)} {bs : List Nat} (h : Rep φ (ρ.onW o) st a w) (hs : SVR (ρ.onW o0) w s v) (hr : rdS st s = some (s', ds, bs)) (hF : ∀ y, xO ρ ds bs y -> F y) : BV F w s' G v := by
 cases s with
 | c x =>
  simp only [rdS] at hr
  split at hr
  ·rename_i y ds' bs' hy
   simp only [Option.some.injEq, Prod.mk.injEq] at hr; obtain ⟨rfl, rfl, rfl⟩ := hr
   exact kD (qJg h hs hy hF)
  ·cases hr
 | agg xs =>
  simp only [rdS] at hr
  split at hr
  ·rename_i ys ds' bs' hy
   simp only [Option.some.injEq, Prod.mk.injEq] at hr; obtain ⟨rfl, rfl, rfl⟩ := hr
   obtain ⟨arr, e, ha⟩ := hs
   exact ⟨arr, e, qHr h ha hy hF⟩
  ·cases hr
 | _ => simp [rdS] at hr
theorem qK2 {c : CV} (h : c.noBox = true) : ∀ e ds, c ≠ .boxr e ds := by
 rintro e ds rfl; cases h
theorem xQ {F : Nat -> Prop} {B : Nat -> Prop} {s : SV} {v : Value} {cs cs' : List CV} (hs : SVR ρ w s v) (hc : s.cells? = some cs) (h : Sep (BC F w) cs' B v.cells.toList) (hl : cs'.length = cs.length) (hb : (s.withCells cs').flat = true) : BV F w (s.withCells cs') B v := by
 cases s with
 | c x =>
  simp only [SV.cells?, Option.some.injEq] at hc
  subst hc
  match cs', hl with
  | [y], _ =>
   have hv : v.cells = #[v] := by
    have := qAc (ρ := ρ) (w := w) (c := x) (v := v) hs
    cases v <;> simp_all [Value.cells, Value.oneCell']
   rw [hv] at h
   obtain ⟨B1, B2, h1, h2, h3, h4⟩ := h
   show BC F w y B v
   rcases kG h3 with ⟨e, ds, rfl⟩ | ⟨hn, h0⟩
   ·obtain ⟨b, arr, fr, C, q1, q2, q3, q4, q5, q6⟩ := h3
    exact ⟨b, arr, fr, C, q1, q2, q3, (h1 _ q4).1, fun y hy => ⟨(h1 y (q5 y hy).1).1, (q5 y hy).2⟩, q6⟩
   ·exact kD (qEL (fun y hy => (h1 y hy).1) h0)
 | agg xs =>
  obtain ⟨arr, rfl, ha⟩ := hs
  simp only [SV.withCells, SV.flat, Bool.and_eq_true, List.all_eq_true] at hb
  refine ⟨arr, rfl, h.impMem fun c C u hc hC hbc => ?_⟩
  rwa [qQt (qK2 (hb.2 c hc))] at hbc
 | _ => simp [SV.cells?] at hc
theorem qBD : ∀ {cs cs' : List CV} {st st' : St} {ls : List qAP}, qAv st cs = some (cs', ls, st') -> cs'.length = cs.length
 | [], cs', st, st', ls, h => by simp only [qAv, Option.some.injEq, Prod.mk.injEq] at h; obtain ⟨rfl, _⟩ := h; rfl
 | c :: cs, cs', st, st', ls, h => by
  simp only [qAv] at h
  split at h
  ·split at h
   ·rename_i h2
    simp only [Option.some.injEq, Prod.mk.injEq] at h
    obtain ⟨rfl, _⟩ := h
    simp [qBD h2]
   ·cases h
  ·cases h
theorem qDI : ∀ {cs cs' : List CV} {st st' : St}, qBY st cs = some (cs', st') -> cs'.length = cs.length
 | [], cs', st, st', h => by simp only [qBY, Option.some.injEq, Prod.mk.injEq] at h; obtain ⟨rfl, _⟩ := h; rfl
 | c :: cs, cs', st, st', h => by
  simp only [qBY] at h
  split at h
  ·split at h
   ·rename_i h2
    simp only [Option.some.injEq, Prod.mk.injEq] at h
    obtain ⟨rfl, _⟩ := h
    simp [qDI h2]
   ·cases h
  ·cases h
theorem qAU {R : CV -> Value -> Prop} : ∀ {sh : List (Bool × Nat)} {cs : List CV} {vs : List Value}, sh.all (fun x => !x.1) = true -> Shaped R sh cs vs -> jC R cs vs
 | [], cs, vs, _, h => by
  simp only [Shaped] at h
  obtain ⟨rfl, rfl⟩ := h
  trivial
 | (true, k) :: sh, cs, vs, ha, h => by simp at ha
 | (false, k) :: sh, [], vs, ha, h => by simp [Shaped] at h
 | (false, k) :: sh, c :: cs, [], ha, h => by simp [Shaped] at h
 | (false, k) :: sh, c :: cs, v :: vs, ha, h => ⟨h.1, qAU (by simpa using ha) h.2⟩
theorem qHV {ms : List Nat} (h : ms.all (· == 0) = true) : (ms.drop 1).all (· == 0) = true := by
 cases ms with
 | nil => rfl
 | cons m r => simp only [List.all_cons, Bool.and_eq_true] at h; exact h.2
theorem qCo {ms : List Nat} (h : ms.all (· == 0) = true) : ms.headD 0 = 0 := by
 cases ms with
 | nil => rfl
 | cons m r => simp only [List.all_cons, Bool.and_eq_true, beq_iff_eq] at h; exact h.1
theorem zW {o0 : Nat -> Prop} {F : Nat -> Prop} (hF : ∀ y, ρ.F y -> F y) : ∀ {vs : List SV} {ms : List Nat} {xs : List Value} {st : St} {e : Exp} {o : Nat -> Prop}, Rep φ (ρ.onW o) st a w -> jC (SVR (ρ.onW o0) w) vs xs -> jS st ms vs = some e ->
  (∀ y, xO ρ e.peeks e.peekB y -> F y) -> (∀ v ∈ e.args, v.flat = true) ->
  ∃ W B, (∀ y, B y -> W y) /\ vJ φ ρ st e.st a w W /\ Sep (BV F w) e.args B xs /\ Sep (Sep (qDo ρ w B)) e.lent W (jZ ms xs) /\ (ms.all (· == 0) = true -> ∀ y, ¬ B y)
 | [], ms, [], st, e, o, h, _, he, _, _ => by
  simp only [jS, Option.some.injEq] at he
  subst he
  exact ⟨_, _, fun _ h => h, vJ.none h, trivial, trivial, fun _ _ h => h⟩
 | v :: vs, ms, x :: xs, st, e, o, h, ha, he, hs, hfl => by
  simp only [jS] at he
  split at he
  ·
   rename_i h0
   split at he
   ·rename_i v' ds bs hr
    split at he
    ·rename_i e2 h2
     simp only [Option.some.injEq] at he
     subst he
     obtain ⟨W, B, i1, t1, s1, l1, z1⟩ := zW hF h ha.2 h2 (fun y hy => hs y (kM y hy)) fun u hu => hfl u (List.mem_cons_of_mem _ hu)
     refine ⟨W, B, i1, t1, ⟨fun _ => False, B, fun _ h => h.elim, fun _ h => h, qNz h ha.1 hr fun y hy => hs y (qAX y hy), s1⟩, ?_, fun hz => z1 (qHV hz)⟩
     simp only [jZ]
     rw [if_neg (by rw [h0]; decide), if_neg (by rw [h0]; decide)]
     exact l1
    ·cases he
   ·cases he
  ·
   rename_i h0
   split at he
   ·rename_i cs hc
    split at he
    ·rename_i cs' ls st1 h1
     split at he
     ·rename_i e2 h2
      simp only [Option.some.injEq] at he
      subst he
      obtain ⟨W1, B1, i1, t1, c1, l1⟩ := qA6 hF h (qAk hc ha.1) h1
      obtain ⟨o1, q1⟩ := t1.rep
      obtain ⟨W2, B2, i2, t2, s2, l2, z2⟩ := zW hF q1 ha.2 h2 hs fun u hu => hfl u (List.mem_cons_of_mem _ hu)
      obtain ⟨t3, d3⟩ := t1.trans t2
      refine ⟨_, fun y => B1 y \/ B2 y, fun y hy => hy.imp (i1 y) (i2 y), t3, ⟨B1, B2, fun y hy => ⟨.inl hy, fun hy' => d3 y (i1 y hy) (i2 y hy')⟩, fun y hy => .inr hy, xQ ha.1 hc c1 (qBD h1) (hfl _ List.mem_cons_self), s2⟩, ?_, fun hz => absurd (qCo hz) (by rw [h0]; decide)⟩
      simp only [jZ]
      rw [if_pos h0]
      refine ⟨W1, W2, fun y hy => ⟨.inl hy, d3 y hy⟩, fun y hy => .inr hy, l1.imp fun l C v hC hl => vE (fun y hy => ⟨.inl, fun hh => hh.resolve_right fun hb => d3 y (hC y hy) (i2 y hb)⟩) hl, ?_⟩
      exact l2.imp fun l C v hC hl => hl.imp fun l' C' v' hC' hl' => vE (fun y hy => ⟨.inr, fun hh => hh.resolve_left fun hb => d3 y (i1 y hb) (hC y (hC' y hy))⟩) hl'
     ·cases he
    ·cases he
   ·cases he
  ·
   rename_i h0
   split at he
   ·rename_i e0 t0
    split at he
    ·rename_i e2 h2
     simp only [Option.some.injEq] at he
     subst he
     obtain ⟨W, B, i1, t1, s1, l1, z1⟩ := zW hF h ha.2 h2 hs fun u hu => hfl u (List.mem_cons_of_mem _ hu)
     refine ⟨W, B, i1, t1, ⟨fun _ => False, B, fun _ h => h.elim, fun _ h => h, (show BC F w (.emp e0 t0) (fun _ => False) x from kD (qAK (ρ := ρ.onW o0) (c := .emp e0 t0) rfl hF ha.1)), s1⟩, ?_, fun hz => z1 (qHV hz)⟩
     simp only [jZ]
     rw [if_neg (by rw [h0]; decide), if_neg (by rw [h0]; decide)]
     exact l1
    ·cases he
   ·cases he
  ·
   rename_i h0
   split at he
   ·rename_i f sh k cs
    split at he
    ·rename_i hsh
     rw [Bool.and_eq_true] at hsh
     split at he
     ·rename_i cs' ls st1 h1
      split at he
      ·rename_i e2 h2
       simp only [Option.some.injEq] at he
       subst he
       obtain ⟨first, caps, v1, v2, v3⟩ := (show CVR (ρ.onW o0) w (.fn f sh k cs) x from ha.1)
       obtain ⟨W1, B1, i1, t1, c1, l1⟩ := qA6 hF h ((qAU hsh.1 v3).imp fun _ _ hh => zL hh) h1
       obtain ⟨o1, q1⟩ := t1.rep
       obtain ⟨W2, B2, i2, t2, s2, l2, z2⟩ := zW hF q1 ha.2 h2 hs fun u hu => hfl u (List.mem_cons_of_mem _ hu)
       obtain ⟨t3, d3⟩ := t1.trans t2
       refine ⟨_, fun y => B1 y \/ B2 y, fun y hy => hy.imp (i1 y) (i2 y), t3, ⟨B1, B2, fun y hy => ⟨.inl hy, fun hy' => d3 y (i1 y hy) (i2 y hy')⟩, fun y hy => .inr hy, ⟨first, caps, v1, v2, c1⟩, s2⟩, ?_, fun hz => absurd (qCo hz) (by rw [h0]; decide)⟩
       simp only [jZ]
       rw [if_neg (by rw [h0]; decide), if_pos h0, v1]
       refine ⟨W1, W2, fun y hy => ⟨.inl hy, d3 y hy⟩, fun y hy => .inr hy, l1.imp fun l C v hC hl => vE (fun y hy => ⟨.inl, fun hh => hh.resolve_right fun hb => d3 y (hC y hy) (i2 y hb)⟩) hl, ?_⟩
       exact l2.imp fun l C v hC hl => hl.imp fun l' C' v' hC' hl' => vE (fun y hy => ⟨.inr, fun hh => hh.resolve_left fun hb => d3 y (i1 y hb) (hC y (hC' y hy))⟩) hl'
      ·cases he
     ·cases he
    ·cases he
   ·cases he
  ·
   rename_i h0
   split at he
   ·rename_i cs hc
    split at he
    ·rename_i cs' ls st1 h1
     split at he
     ·rename_i e2 h2
      simp only [Option.some.injEq] at he
      subst he
      obtain ⟨W1, B1, i1, t1, c1, l1⟩ := qA6 hF h (qAk hc ha.1) h1
      obtain ⟨o1, q1⟩ := t1.rep
      obtain ⟨W2, B2, i2, t2, s2, l2, z2⟩ := zW hF q1 ha.2 h2 hs fun u hu => hfl u (List.mem_cons_of_mem _ hu)
      obtain ⟨t3, d3⟩ := t1.trans t2
      refine ⟨_, fun y => B1 y \/ B2 y, fun y hy => hy.imp (i1 y) (i2 y), t3, ⟨B1, B2, fun y hy => ⟨.inl hy, fun hy' => d3 y (i1 y hy) (i2 y hy')⟩, fun y hy => .inr hy, xQ ha.1 hc c1 (qBD h1) (hfl _ List.mem_cons_self), s2⟩, ?_, fun hz => absurd (qCo hz) (by rw [h0]; decide)⟩
      simp only [jZ]
      rw [if_neg (by rw [h0]; decide), if_neg (by rw [h0]; decide)]
      exact (l2.imp fun l C v hC hl => hl.imp fun l' C' v' hC' hl' => vE (fun y hy => ⟨.inr, fun hh => hh.resolve_left fun hb => d3 y (i1 y hb) (hC y (hC' y hy))⟩) hl').foot fun y hy => .inr hy
     ·cases he
    ·cases he
   ·cases he
  ·
   rename_i h0 h0' h0'' h0a h0b
   split at he
   ·rename_i cs hc
    split at he
    ·rename_i cs' st1 h1
     split at he
     ·rename_i e2 h2
      simp only [Option.some.injEq] at he
      subst he
      obtain ⟨B1, t1, c1⟩ := qFx hF h (qAk hc ha.1) h1
      obtain ⟨o1, q1⟩ := t1.rep
      obtain ⟨W2, B2, i2, t2, s2, l2, z2⟩ := zW hF q1 ha.2 h2 hs fun u hu => hfl u (List.mem_cons_of_mem _ hu)
      obtain ⟨t3, d3⟩ := t1.trans t2
      refine ⟨_, fun y => B1 y \/ B2 y, fun y hy => hy.imp id (i2 y), t3, ⟨B1, B2, fun y hy => ⟨.inl hy, fun hy' => d3 y hy (i2 y hy')⟩, fun y hy => .inr hy, xQ ha.1 hc (c1.imp fun _ _ _ _ => kD) (qDI h1) (hfl _ List.mem_cons_self), s2⟩, ?_, fun hz => absurd (qCo hz) h0⟩
      simp only [jZ]
      rw [if_neg (fun hh => h0' hh), if_neg (fun hh => h0a hh)]
      exact (l2.imp fun l C v hC hl => hl.imp fun l' C' v' hC' hl' => vE (fun y hy => ⟨.inr, fun hh => hh.resolve_left fun hb => d3 y hb (hC y (hC' y hy))⟩) hl').foot fun y hy => .inr hy
     ·cases he
    ·cases he
   ·cases he
end
theorem qKB {F G : Nat -> Prop} {w : World} : ∀ {t : Ty} {n : Nat} {x : t.T} {B : Nat -> Prop} {vs : List Value}, t.full n = true -> qJ F w t n x B vs -> qJ G w t n x B vs := by
 intro t
 induction t with
 | int k => intro n x B vs _ h; rw [qJ] at h ⊢; exact h
 | bool => intro n x B vs _ h; rw [qJ] at h ⊢; exact h
 | str => intro n x B vs _ h; rw [qJ] at h ⊢; exact h
 | unit => intro n x B vs _ h; rw [qJ] at h ⊢; exact h
 | ptr e t _ => intro n x B vs hf; simp [Ty.full] at hf
 | prod a b iha ihb =>
  intro n x B vs hf h
  simp only [Ty.full, Bool.and_eq_true] at hf
  rw [qJ] at h ⊢
  obtain ⟨v1, v2, B1, B2, e, d1, d2, h1, h2⟩ := h
  exact ⟨v1, v2, B1, B2, e, d1, d2, iha hf.1 h1, ihb hf.2 h2⟩
 | sl e t iht =>
  intro n x B vs hf h
  cases n with
  | zero => simp [Ty.full] at hf
  | succ n =>
   simp only [Ty.full] at hf
   rw [qJ] at h ⊢
   obtain ⟨v, e1, h⟩ := h
   exact ⟨v, e1, qDe (fun _ _ _ h => iht hf h) (fun _ h => h) h⟩
theorem qKu {F G : Nat -> Prop} {w : World} {r : Row} {B : Nat -> Prop} {v : Value} (h0 : r.hole = none \/ r.isMap = true) (hl : r.leads = false) (h : zJ F w r B v) : zJ G w r B v := by
 unfold Row.leads at hl
 by_cases hm : r.isMap = true
 ·rw [if_pos hm] at hl
  obtain ⟨h1, b, es, clk, h2, h3, h4, h5⟩ := zJ.map hm h
  exact zJ.mkMap hm h1 ⟨b, es, clk, h2, h3, h4, h5.imp fun _ _ hh => qGO hl hh⟩
 ·rw [if_neg hm] at hl
  have hn := h0.resolve_right hm
  exact zJ.mk hn (qKB (by simpa using hl) (zJ.whole hn h))
theorem qCr {F G : Nat -> Prop} {w : World} {c : CV} {B : Nat -> Prop} {v : Value} (hl : c.leads = false) (h : BC0 F w c B v) : BC0 G w c B v := by
 cases c with
 | row r =>
  simp only [CV.leads] at hl
  exact ⟨h.1, qKu h.1 hl h.2.1, h.2.2⟩
 | dat => simp [CV.leads] at hl
 | pdat => simp [CV.leads] at hl
 | fn => simp [CV.leads] at hl
 | boxr => exact (qGT h).elim
 | undef => exact h
 | own => have := h.1; simp [CV.plain, CV.plain0] at this
 | vw => have := h.1; simp [CV.plain, CV.plain0] at this
 | nref => have := h.1; simp [CV.plain, CV.plain0] at this
 | pbox => have := h.1; simp [CV.plain, CV.plain0] at this
 | pelt => have := h.1; simp [CV.plain, CV.plain0] at this
 | pn => have := h.1; simp [CV.plain, CV.plain0] at this
 | _ => exact h
theorem qKI {F G : Nat -> Prop} {w : World} {c : CV} {B : Nat -> Prop} {v : Value} (hl : c.leads = false) (h : BC F w c B v) : BC G w c B v := by
 rcases kG h with ⟨e, cs, rfl⟩ | ⟨hn, h⟩
 ·obtain ⟨b, arr, fr, B1, h1, h2, h3, h4, h5, h6⟩ := h
  simp only [CV.leads, List.any_eq_false] at hl
  refine ⟨b, arr, fr, B1, h1, h2, h3, h4, h5, h6.impMem fun c C v hc hC hb => ?_⟩
  have hx := hl c hc
  cases c <;> first | exact (qGT hb).elim | exact qCr rfl hb | exact qCr (Bool.eq_false_iff.2 hx) hb
 ·exact kD (qCr hl h)
theorem qGS {F G : Nat -> Prop} {w : World} {c : SV} {B : Nat -> Prop} {v : Value} (hl : c.leads1 = false) (h : BV F w c B v) : BV G w c B v := by
 cases c with
 | c x => exact qKI (c := x) hl h
 | agg xs =>
  obtain ⟨arr, h1, h2⟩ := h
  refine ⟨arr, h1, h2.impMem fun c C v hc hC hb => qCr ?_ hb⟩
  simp only [SV.leads1, List.any_eq_false] at hl
  simpa using hl c hc
 | undef => exact h
 | clo _ _ _ => simp [SV.leads1] at hl
 | tup _ => exact h
theorem qNb {F G : Nat -> Prop} {w : World} {c : SV} {B : Nat -> Prop} {v : Value} (hl : c.leads = false) (h : BR F w c B v) : BR G w c B v := by
 cases c with
 | tup vs =>
  obtain ⟨arr, h1, h2⟩ := h
  refine ⟨arr, h1, h2.impMem fun c C v hc hC hb => qGS ?_ hb⟩
  simp only [SV.leads, List.any_eq_false] at hl
  simpa using hl c hc
 | undef => exact (show False from h).elim
 | clo _ _ _ => simp [SV.leads, SV.leads1] at hl
 | c x => exact qGS (F := F) (G := G) (w := w) (B := B) (v := v) (c := .c x) hl h
 | agg xs => exact qGS (F := F) (G := G) (w := w) (B := B) (v := v) (c := .agg xs) hl h
section
variable {φ : Fix} {ρ : Env} {st : St} {a : Act} {w : World}
def Env.withFt (ρ : Env) (d : Nat) (B : Nat -> Prop) : Env := { ρ with ft := fun e => if e = d then B else ρ.ft e }
theorem Rep.backRow (h : Rep φ ρ st a w) {d : Nat} {r : Row} {B : Nat -> Prop} (hB : qI φ ρ st w B) (hr : zJ ρ.F w r B (ρ.val d)) (ht : ρ.ty d = r.t) (hL : r.l ≠ [] -> ∃ b n c, xP (ρ.val d) b n c) :
  Rep φ (ρ.withFt d B) { st with rows := put d r st.rows } a w := by
 have m : ∀ c : CV, jM ρ (ρ.withFt d B) w w c := fun c => ⟨fun _ h => h, qC.refl _ _, fun _ _ => ⟨rfl, rfl⟩, fun d _ ho => ⟨ho, fun _ _ _ _ _ => qC.refl _ _⟩, fun _ _ => rfl⟩
 have hlk : ∀ {e re}, qL e (put d r st.rows) = some re -> (e = d /\ re = r) \/ (e ≠ d /\ qL e st.rows = some re) := fun {e re} he => by
  rw [qP] at he
  by_cases hh : e = d
  ·rw [if_pos hh] at he; simp only [Option.some.injEq] at he; exact .inl ⟨hh, he.symm⟩
  ·rw [if_neg hh] at he; exact .inr ⟨hh, he⟩
 have ftd : (ρ.withFt d B).ft d = B := by simp [Env.withFt]
 have fte : ∀ {e}, e ≠ d -> (ρ.withFt d B).ft e = ρ.ft e := fun hn => by simp [Env.withFt, hn]
 exact {
  size := h.size, nodef := h.nodef
  on := fun e he => by
   show ∃ r', qL e (put d r st.rows) = some r'
   rw [qP]
   by_cases hh : e = d
   ·exact ⟨r, by rw [if_pos hh]⟩
   ·rw [if_neg hh]; exact h.on e he
  slots := fun s v hv => ⟨(h.slots s v hv).1, kF (fun c _ => m c) (h.slots s v hv).2⟩
  rows := fun e re he => by
   rcases hlk he with ⟨rfl, rfl⟩ | ⟨hn, he⟩
   ·exact ⟨trivial, ht, by rw [ftd]; exact hr, hL⟩
   ·obtain ⟨g1, g2, g3, g4⟩ := h.rows e re he
    exact ⟨g1, g2, by rw [fte hn]; exact g3, g4⟩
  boxes := fun b x hx => by obtain ⟨arr, fr, h1, h2, h3⟩ := h.boxes b x hx; exact ⟨arr, fr, h1, h2, h3.imp fun _ _ => jP (m _)⟩
  rsep := fun e e' r1 r2 h1 h2 hn y hy hy' => by
   rcases hlk h1 with ⟨rfl, rfl⟩ | ⟨n1, k1⟩ <;> rcases hlk h2 with ⟨rfl, rfl⟩ | ⟨n2, k2⟩
   ·exact hn rfl
   ·rw [ftd] at hy; rw [fte n2] at hy'; exact hB.row e' r2 k2 y hy' hy
   ·rw [fte n1] at hy; rw [ftd] at hy'; exact hB.row e r1 k1 y hy hy'
   ·rw [fte n1] at hy; rw [fte n2] at hy'; exact h.rsep e e' r1 r2 k1 k2 hn y hy hy'
  rF := fun e r1 h1 y hy => by
   rcases hlk h1 with ⟨rfl, rfl⟩ | ⟨n1, h1⟩
   ·rw [ftd] at hy; exact hB.here y hy
   ·rw [fte n1] at hy; exact h.rF e r1 h1 y hy
  rb := fun e r1 b x h1 h2 hy => by
   rcases hlk h1 with ⟨rfl, rfl⟩ | ⟨n1, h1⟩
   ·rw [ftd] at hy; exact hB.box b x h2 hy
   ·rw [fte n1] at hy; exact h.rb e r1 b x h1 h2 hy
  bsep := h.bsep, bF := h.bF, Fbd := h.Fbd, F0 := h.F0, grow := h.grow, io := h.io, tab := h.tab, keep := h.keep, lentR := h.lentR, lentB := h.lentB }
theorem qI.backRow {d : Nat} {r : Row} {B Z : Nat -> Prop} (h : qI φ ρ st w Z) (hz : ∀ y, Z y -> ¬ B y) : qI φ (ρ.withFt d B) { st with rows := put d r st.rows } w Z where
 row := fun e re he y hy hy' => by
  simp only [qP] at he
  simp only [Env.withFt] at hy
  by_cases hh : e = d
  ·rw [if_pos hh] at hy; exact hz y hy' hy
  ·rw [if_neg hh] at hy he; exact h.row e re he y hy hy'
 box := h.box
 here := h.here
theorem jM.trans {ρ ρ1 ρ2 : Env} {w : World} {c : CV} (h : jM ρ ρ1 w w c) (h' : jM ρ1 ρ2 w w c) : jM ρ ρ2 w w c :=
 ⟨fun y hy => h'.F y (h.F y hy), qC.refl _ _, fun d hd => ⟨(h'.row d hd).1.trans (h.row d hd).1, (h'.row d hd).2.trans (h.row d hd).2⟩,
  fun d hd ho => ⟨(h'.nest d hd (h.nest d hd ho).1).1, fun _ _ _ _ _ => qC.refl _ _⟩, fun b hb => (h'.box b hb).trans (h.box b hb)⟩
structure qHY (φ : Fix) (ρ ρ' : Env) (st st' : St) (a : Act) (w : World) (Z : Nat -> Prop) (lo hi : Nat) : Prop where
 rep : Rep φ ρ' st' a w
 F : ρ'.F = ρ.F
 blk : ρ'.blk = ρ.blk
 apart : ∀ Z0, qI φ ρ st w Z0 -> (∀ y, Z0 y -> ¬ Z y) -> qI φ ρ' st' w Z0
 val : ∀ d, ¬ (lo <= d /\ d < hi) -> ρ'.val d = ρ.val d /\ ρ'.ty d = ρ.ty d
 moves : ∀ c : CV, c.says (CV.within lo hi) = false -> jM ρ ρ' w w c
theorem qHY.refl (h : Rep φ ρ st a w) (Z : Nat -> Prop) (lo hi : Nat) : qHY φ ρ ρ st st a w Z lo hi :=
 ⟨h, rfl, rfl, fun _ h _ => h, fun _ _ => ⟨rfl, rfl⟩, fun c _ => jM.same (fun S => qC.refl S w) c⟩
theorem qMo {lo hi lo' hi' : Nat} {c : CV} (h1 : lo <= lo') (h2 : hi' <= hi) (h : c.says (CV.within lo hi) = false) : c.says (CV.within lo' hi') = false := by
 rw [Bool.eq_false_iff] at h ⊢
 intro hh
 obtain ⟨d, q1, q2, q3⟩ := jE.1 hh
 exact h (jE.2 ⟨d, by omega, by omega, q3⟩)
theorem qHY.trans {ρ1 ρ2 : Env} {st1 st2 : St} {Z1 Z2 Z : Nat -> Prop} {lo hi lo1 hi1 lo2 hi2 : Nat} (h : qHY φ ρ ρ1 st st1 a w Z1 lo1 hi1) (h' : qHY φ ρ1 ρ2 st1 st2 a w Z2 lo2 hi2)
  (z1 : ∀ y, Z1 y -> Z y) (z2 : ∀ y, Z2 y -> Z y) (l1 : lo1 < hi1 -> lo <= lo1 /\ hi1 <= hi) (l2 : lo2 < hi2 -> lo <= lo2 /\ hi2 <= hi) : qHY φ ρ ρ2 st st2 a w Z lo hi where
 rep := h'.rep
 F := h'.F.trans h.F
 blk := h'.blk.trans h.blk
 apart := fun Z0 h0 hz => h'.apart Z0 (h.apart Z0 h0 fun y hy hh => hz y hy (z1 y hh)) fun y hy hh => hz y hy (z2 y hh)
 val := fun d hd => by
  have e1 := h.val d (fun hh => hd (by have := l1 (by omega); omega))
  have e2 := h'.val d (fun hh => hd (by have := l2 (by omega); omega))
  exact ⟨e2.1.trans e1.1, e2.2.trans e1.2⟩
 moves := fun c hc => by
  have k : ∀ {lo' hi' : Nat}, (lo' < hi' -> lo <= lo' /\ hi' <= hi) -> c.says (CV.within lo' hi') = false := fun {lo' hi'} hl => by
   rw [Bool.eq_false_iff] at hc ⊢
   intro hh
   obtain ⟨d, q1, q2, q3⟩ := jE.1 hh
   have := hl (by omega)
   exact hc (jE.2 ⟨d, by omega, by omega, q3⟩)
  exact (h.moves c (k l1)).trans (h'.moves c (k l2))
theorem jX {base : Nat} : ∀ {cs : List CV} {vs : List Value} {j : Nat} {ρ : Env} {st : St} {B : Nat -> Prop}, Rep φ ρ st a w -> qI φ ρ st w B -> Sep (BC0 ρ.F w) cs B vs ->
  ∃ ρ', qHY φ ρ ρ' st (qH st base j cs).2 a w B (base + j) (base + j + cs.length) /\ jC (CVR ρ' w) (qH st base j cs).1 vs
 | [], [], j, ρ, st, B, h, _, _ => ⟨ρ, qHY.refl h _ _ _, trivial⟩
 | c :: cs, v :: vs, j, ρ, st, B, h, hB, hs => by
  obtain ⟨B1, B2, d1, d2, h1, h2⟩ := hs
  have plain : (∀ r, c ≠ .row r) -> ∃ ρ', qHY φ ρ ρ' st (qH st base (j + 1) cs).2 a w B (base + j) (base + j + (c :: cs).length) /\ jC (CVR ρ' w) (c :: (qH st base (j + 1) cs).1) (v :: vs) := by
   intro hn
   obtain ⟨ρ', p, q⟩ := jX (base := base) (j := j + 1) h (hB.sub d2) h2
   have hp : c.plain = true /\ CVR (bare ρ.F) w c v := by
    cases c <;> first | exact h1 | exact absurd rfl (hn _)
   refine ⟨ρ', (qHY.refl h (fun _ => False) 0 0).trans p (fun _ h => h.elim) d2 (fun h => by omega) (fun _ => by simp only [List.length_cons]; omega), ?_, q⟩
   exact jP (yZ hp.1 (fun y hy => by rw [p.F]; exact hy) (qC.refl _ _)) hp.2
  cases c with
  | row r =>
   simp only [qH]
   obtain ⟨p1, p2, p3⟩ := h1
   have hB1 : qI φ ρ st w B1 := hB.sub fun y hy => (d1 y hy).1
   have hadd := h.addRowD (jO.refl w) (d := base + j) (r := r) (v := v) (B := B1) p2 p3 hB1.here (fun e r' _ he y hy => hB1.row e r' he y hy) (fun b x hx => hB1.box b x hx)
   have put1 : qHY φ ρ (ρ.setRow (base + j) v r.t B1) st (st.addRow (base + j) r) a w B1 (base + j) (base + j + 1) :=
    ⟨hadd, rfl, rfl, fun Z0 h0 hz => h0.addRow hz, fun d hd => by
     have : d ≠ base + j := fun e => hd (by omega)
     simp [Env.setRow, this], fun c hc => jM.setRow (fun S => qC.refl S w) (by
      rw [Bool.eq_false_iff] at hc ⊢
      intro hh
      exact hc (jE.2 ⟨base + j, by omega, by omega, hh⟩))⟩
   obtain ⟨ρ', p, q⟩ := jX (base := base) (j := j + 1) hadd (put1.apart B2 (hB.sub d2) fun y hy hh => (d1 y hh).2 hy) h2
   refine ⟨ρ', put1.trans p (fun y hy => (d1 y hy).1) d2 (fun _ => by simp only [List.length_cons]; omega) (fun _ => by simp only [List.length_cons]; omega), ?_, q⟩
   have hv : CVR (ρ.setRow (base + j) v r.t B1) w (.own (base + j)) v := ⟨by simp [Env.setRow], qHX p1 p2⟩
   refine jP (p.moves _ ?_) hv
   rw [Bool.eq_false_iff]
   intro hh
   obtain ⟨d, k1, k2, k3⟩ := jE.1 hh
   simp only [CV.says, CV.speaks, Bool.or_false, beq_iff_eq] at k3
   omega
  | _ => exact plain (fun r => by intro e; cases e)
theorem qHU (h : Rep φ ρ st a w) {b : Nat} {x : Box} {arr : Array Value} {fr : Nat × Nat} (hap : qI φ ρ st w (fun y => y = ρ.blk b)) (hit : x.it = false) (harr : w.heap[ρ.blk b]? = some (.cells arr x.e fr)) (hfr : qBq arr.size fr) (hc : jC (CVR ρ w) x.cs arr.toList) :
  Rep φ ρ { st with boxes := put b x st.boxes } a w :=
 h.putBox (Nat.le_refl _) (zD.refl w) (fun _ _ _ => rfl) (hap.here _ rfl).1 (fun d r hd hf => hap.row d r hd _ hf rfl) (fun b' x' hx' _ e => hap.box b' x' hx' e) (hap.here _ rfl).2.2 (xK.of harr hit) hfr hc
theorem qI.backBox {b : Nat} {x : Box} {Z : Nat -> Prop} (h : qI φ ρ st w Z) (hb : ¬ Z (ρ.blk b)) : qI φ ρ { st with boxes := put b x st.boxes } w Z where
 row := h.row
 box := fun b' x' hx' => by
  simp only [qP] at hx'
  by_cases hh : b' = b
  ·subst hh; exact hb
  ·rw [if_neg hh] at hx'; exact h.box b' x' hx'
 here := h.here
theorem qLq {ρ0 : Env} {w0 : World} {B W C : Nat -> Prop} {l : qAP} {c : CV} {v : Value} {st' : St} (h : Rep φ ρ st a w) (hl : qDo ρ0 w0 B l W v) (hF : ∀ y, ρ0.F y -> ρ.F y) (aF : qC ρ0.F w0 w) (aW : qC (fun y => W y /\ ¬ B y) w0 w)
  (hc : BC ρ.F w c C v) (hZ : qI φ ρ st w fun y => C y \/ (W y /\ ¬ B y)) (hCW : ∀ y, C y -> ¬ (W y /\ ¬ B y)) (hn : ∀ d ∈ l.rowNames, ρ.val d = ρ0.val d /\ ρ.ty d = ρ0.ty d) (hblk : ∀ b ∈ l.boxNames, ρ.blk b = ρ0.blk b)
  (he : qED st l c = some st') : ∃ ρ', Rep φ ρ' st' a w /\ ρ'.F = ρ.F /\ ρ'.blk = ρ.blk /\ (∀ Z0, qI φ ρ st w Z0 -> (∀ y, Z0 y -> ¬ (C y \/ (W y /\ ¬ B y))) -> qI φ ρ' st' w Z0) /\
   ∀ d, (∀ b ∈ l.boxNames, ¬ (qS b <= d /\ d < qS b + 32)) -> ρ'.val d = ρ.val d /\ ρ'.ty d = ρ.ty d := by
 cases l with
 | keep =>
  simp only [qED, Option.some.injEq] at he
  subst he
  exact ⟨ρ, h, rfl, rfl, fun _ h _ => h, fun _ _ => ⟨rfl, rfl⟩⟩
 | row d r =>
  obtain ⟨e1, e2⟩ := hl
  obtain ⟨k1, k2⟩ := hn d (by simp [qAP.rowNames])
  cases c with
  | row r' =>
   simp only [qED] at he
   split at he
   ·rename_i ht
    simp only [Option.some.injEq] at he
    subst he
    obtain ⟨p1, p2, p3⟩ := (hc : BC0 ρ.F w (.row r') C v)
    have hv : v = ρ.val d := by rw [k1]; exact e1
    subst hv
    have hr := h.backRow (d := d) (r := r') (B := C) (hZ.sub fun y hy => .inl hy) p2 (by rw [k2, e2, ht.1]) p3
    exact ⟨_, hr, rfl, rfl, fun Z0 h0 hz => h0.backRow fun y hy hh => hz y hy (.inl hh), fun _ _ => ⟨rfl, rfl⟩⟩
   ·cases he
  | _ => simp [qED] at he
 | nest d i off r n =>
  obtain ⟨e1, e2, ⟨bb, nn, cc, e3⟩, e4⟩ := hl
  obtain ⟨k1, k2⟩ := hn d (by simp [qAP.rowNames])
  cases c with
  | row r' =>
   simp only [qED] at he
   split at he
   ·rename_i hm
    split at he
    ·rename_i x hx
     simp only [Option.some.injEq] at he
     subst he
     obtain ⟨p1, p2, p3⟩ := (hc : BC0 ρ.F w (.row r') C v)
     have p2 := zJ.whole (p1.resolve_right (by rw [hm.2]; decide)) p2
     rw [show r'.m = r.m - 1 by omega] at p2
     have key := e4 ρ.F w r' C x hF aF aW p2 hCW hx
     rw [<- k1] at key e3
     have hap : qI φ ρ st w fun y => (W y /\ ¬ B y) \/ C y := hZ.sub fun y hy => hy.symm
     have hr := h.backRow (d := d) (r := { r with l := r.l.set i x }) (B := fun y => (W y /\ ¬ B y) \/ C y) hap (zJ.mk (r := { r with l := r.l.set i x }) e2 key) (by rw [k2]; exact e1) (fun _ => ⟨_, _, _, e3⟩)
     exact ⟨_, hr, rfl, rfl, fun Z0 h0 hz => h0.backRow fun y hy hh => hz y hy hh.symm, fun _ _ => ⟨rfl, rfl⟩⟩
    ·cases he
   ·cases he
  | _ => simp [qED] at he
 | box b x =>
  obtain ⟨e1, e2⟩ := hl
  have kb := hblk b (by simp [qAP.boxNames])
  cases c with
  | boxr e cs =>
   simp only [qED] at he
   split at he
   ·rename_i hlen
    simp only [Option.some.injEq] at he
    subst he
    obtain ⟨b', arr, fr, B1, q1, q2, q3, q4, q5, q6⟩ := (hc : BC ρ.F w (.boxr e cs) C v)
    have hb' : b' = ρ.blk b := by
     rw [e1] at q1
     simp only [Value.pointer.injEq, Option.some.injEq, Addr.mk.injEq, and_true] at q1
     rw [kb]; exact q1.symm
    subst hb'
    have hB1 : qI φ ρ st w B1 := hZ.sub fun y hy => .inl (q5 y hy).1
    obtain ⟨ρ', p, q⟩ := jX (base := qS b) (j := 0) h hB1 q6
    have hap : qI φ ρ' (qH st (qS b) 0 cs).2 w fun y => y = ρ'.blk b := by
     rw [p.blk]
     exact p.apart _ (hZ.sub fun y hy => by subst hy; exact .inl q4) fun y hy hh => by subst hy; exact (q5 _ hh).2 rfl
    refine ⟨ρ', qHU p.rep (x := { e := e, cs := (qH st (qS b) 0 cs).1, ro := x.ro }) hap rfl (by rw [p.blk]; exact q2) q3 q, p.F, p.blk, fun Z0 h0 hz => ?_, fun d hd => ?_⟩
    ·refine (p.apart Z0 h0 fun y hy hh => hz y hy (.inl (q5 y hh).1)).backBox ?_
     rw [p.blk]; exact fun hh => hz _ hh (.inl q4)
    ·refine p.val d fun hh => hd b (by simp [qAP.boxNames]) ⟨by omega, by omega⟩
   ·cases he
  | _ => simp [qED] at he
end
theorem qCQ {ls : List (List qAP)} (h : qBC ls = true) : ∀ l1 ∈ ls, ∀ l2 ∈ ls, ∀ x ∈ l1, ∀ y ∈ l2, ∀ d ∈ x.rowNames, ∀ b ∈ y.boxNames, ¬ (qS b <= d /\ d < qS b + 32) := by
 intro l1 h1 l2 h2 x hx y hy d hd b hb ⟨q1, q2⟩
 unfold qBC at h
 simp only [Bool.or_eq_true, List.isEmpty_iff, List.all_eq_true] at h
 have mb : b ∈ ls.flatMap fun l => l.flatMap qAP.boxNames := List.mem_flatMap.2 ⟨l2, h2, List.mem_flatMap.2 ⟨y, hy, hb⟩⟩
 have md : d ∈ ls.flatMap fun l => l.flatMap qAP.rowNames := List.mem_flatMap.2 ⟨l1, h1, List.mem_flatMap.2 ⟨x, hx, hd⟩⟩
 rcases h with h | h
 ·rw [h] at mb; cases mb
 ·have := h d md b mb
  simp [q1, q2] at this
section
variable {φ : Fix} {ρ : Env} {st : St} {a : Act} {w : World}
structure qDl (φ : Fix) (ρ ρ' : Env) (st st' : St) (a : Act) (w : World) (Z : Nat -> Prop) (bs : List Nat) : Prop where
 rep : Rep φ ρ' st' a w
 F : ρ'.F = ρ.F
 blk : ρ'.blk = ρ.blk
 apart : ∀ Z0, qI φ ρ st w Z0 -> (∀ y, Z0 y -> ¬ Z y) -> qI φ ρ' st' w Z0
 val : ∀ d, (∀ b ∈ bs, ¬ (qS b <= d /\ d < qS b + 32)) -> ρ'.val d = ρ.val d /\ ρ'.ty d = ρ.ty d
theorem qDl.refl (h : Rep φ ρ st a w) (Z : Nat -> Prop) : qDl φ ρ ρ st st a w Z [] := ⟨h, rfl, rfl, fun _ h _ => h, fun _ _ => ⟨rfl, rfl⟩⟩
theorem qDl.trans {ρ1 ρ2 : Env} {st1 st2 : St} {Z1 Z2 Z : Nat -> Prop} {b1 b2 : List Nat} (h : qDl φ ρ ρ1 st st1 a w Z1 b1) (h' : qDl φ ρ1 ρ2 st1 st2 a w Z2 b2) (z1 : ∀ y, Z1 y -> Z y) (z2 : ∀ y, Z2 y -> Z y) : qDl φ ρ ρ2 st st2 a w Z (b1 ++ b2) where
 rep := h'.rep
 F := h'.F.trans h.F
 blk := h'.blk.trans h.blk
 apart := fun Z0 h0 hz => h'.apart Z0 (h.apart Z0 h0 fun y hy hh => hz y hy (z1 y hh)) fun y hy hh => hz y hy (z2 y hh)
 val := fun d hd => by
  have e1 := h.val d fun b hb => hd b (List.mem_append_left _ hb)
  have e2 := h'.val d fun b hb => hd b (List.mem_append_right _ hb)
  exact ⟨e2.1.trans e1.1, e2.2.trans e1.2⟩
theorem qHT {ρ0 : Env} {w0 : World} {B : Nat -> Prop} : ∀ {ls : List qAP} {cs : List CV} {vs : List Value} {W C : Nat -> Prop} {ρ : Env} {st st' : St}, Rep φ ρ st a w -> Sep (qDo ρ0 w0 B) ls W vs -> (∀ y, ρ0.F y -> ρ.F y) -> qC ρ0.F w0 w ->
  qC (fun y => W y /\ ¬ B y) w0 w -> Sep (BC ρ.F w) cs C vs -> (qI φ ρ st w fun y => C y \/ (W y /\ ¬ B y)) -> (∀ y, C y -> ¬ (W y /\ ¬ B y)) ->
  (∀ l ∈ ls, (∀ d ∈ l.rowNames, ρ.val d = ρ0.val d /\ ρ.ty d = ρ0.ty d) /\ ∀ b ∈ l.boxNames, ρ.blk b = ρ0.blk b) -> (∀ x ∈ ls, ∀ y ∈ ls, ∀ d ∈ x.rowNames, ∀ b ∈ y.boxNames, ¬ (qS b <= d /\ d < qS b + 32)) ->
  qGI st ls cs = some st' -> ∃ ρ', qDl φ ρ ρ' st st' a w (fun y => C y \/ (W y /\ ¬ B y)) (ls.flatMap qAP.boxNames)
 | [], [], [], W, C, ρ, st, st', h, _, _, _, _, _, _, _, _, _, he => by
  simp only [qGI, Option.some.injEq] at he
  subst he
  exact ⟨ρ, qDl.refl h _⟩
 | [], _ :: _, vs, W, C, ρ, st, st', h, _, _, _, _, _, _, _, _, _, he => by simp [qGI] at he
 | _ :: _, [], vs, W, C, ρ, st, st', h, _, _, _, _, _, _, _, _, _, he => by simp [qGI] at he
 | l :: ls, c :: cs, [], W, C, ρ, st, st', h, hl, _, _, _, _, _, _, _, _, he => by exact hl.elim
 | l :: ls, c :: cs, v :: vs, W, C, ρ, st, st', h, hl, hF, aF, aW, hc, hZ, hCW, hn, hnn, he => by
  obtain ⟨W1, W2, w1, w2, l1, l2⟩ := hl
  obtain ⟨C1, C2, c1, c2, k1, k2⟩ := hc
  simp only [qGI] at he
  split at he
  ·rename_i st1 h1
   have z1 : ∀ y, (C1 y \/ (W1 y /\ ¬ B y)) -> (C y \/ (W y /\ ¬ B y)) := fun y hy => hy.imp (fun h => (c1 y h).1) fun h => ⟨(w1 y h.1).1, h.2⟩
   have z2 : ∀ y, (C2 y \/ (W2 y /\ ¬ B y)) -> (C y \/ (W y /\ ¬ B y)) := fun y hy => hy.imp (c2 y) fun h => ⟨w2 y h.1, h.2⟩
   obtain ⟨ρ1, q1, q2, q3, q4, q5⟩ := qLq h l1 hF aF (aW.mono fun y hy => ⟨(w1 y hy.1).1, hy.2⟩) k1 (hZ.sub z1) (fun y hy hh => hCW y (c1 y hy).1 ⟨(w1 y hh.1).1, hh.2⟩) (hn l List.mem_cons_self).1 (hn l List.mem_cons_self).2 h1
   have hap2 : qI φ ρ1 st1 w fun y => C2 y \/ (W2 y /\ ¬ B y) := q4 _ (hZ.sub z2) fun y hy hh => by
    rcases hy with hy | hy <;> rcases hh with hh | hh
    ·exact (c1 y hh).2 hy
    ·exact hCW y (c2 y hy) ⟨(w1 y hh.1).1, hh.2⟩
    ·exact hCW y (c1 y hh).1 ⟨w2 y hy.1, hy.2⟩
    ·exact (w1 y hh.1).2 hy.1
   obtain ⟨ρ2, b2⟩ := qHT q1 l2 (fun y hy => by rw [q2]; exact hF y hy) aF (aW.mono fun y hy => ⟨w2 y hy.1, hy.2⟩) (k2.imp fun c C v _ hh => by rw [q2]; exact hh) hap2 (fun y hy hh => hCW y (c2 y hy) ⟨w2 y hh.1, hh.2⟩)
    (fun x hx => ⟨fun d hd => by
     have e1 := q5 d fun b hb => hnn x (List.mem_cons_of_mem _ hx) l List.mem_cons_self d hd b hb
     have e2 := (hn x (List.mem_cons_of_mem _ hx)).1 d hd
     exact ⟨e1.1.trans e2.1, e1.2.trans e2.2⟩, fun b hb => by rw [q3]; exact (hn x (List.mem_cons_of_mem _ hx)).2 b hb⟩)
    (fun x hx y hy => hnn x (List.mem_cons_of_mem _ hx) y (List.mem_cons_of_mem _ hy)) he
   exact ⟨ρ2, qDl.trans (b1 := l.boxNames) ⟨q1, q2, q3, q4, q5⟩ b2 z1 z2⟩
  ·cases he
theorem qFV {ρ0 : Env} {w0 : World} {B : Nat -> Prop} : ∀ {ls : List (List qAP)} {cs : List (List CV)} {vs : List (List Value)} {W C : Nat -> Prop} {ρ : Env} {st st' : St}, Rep φ ρ st a w -> Sep (Sep (qDo ρ0 w0 B)) ls W vs -> (∀ y, ρ0.F y -> ρ.F y) -> qC ρ0.F w0 w ->
  qC (fun y => W y /\ ¬ B y) w0 w -> Sep (Sep (BC ρ.F w)) cs C vs -> (qI φ ρ st w fun y => C y \/ (W y /\ ¬ B y)) -> (∀ y, C y -> ¬ (W y /\ ¬ B y)) ->
  (∀ l ∈ ls, ∀ x ∈ l, (∀ d ∈ x.rowNames, ρ.val d = ρ0.val d /\ ρ.ty d = ρ0.ty d) /\ ∀ b ∈ x.boxNames, ρ.blk b = ρ0.blk b) -> (∀ l1 ∈ ls, ∀ l2 ∈ ls, ∀ x ∈ l1, ∀ y ∈ l2, ∀ d ∈ x.rowNames, ∀ b ∈ y.boxNames, ¬ (qS b <= d /\ d < qS b + 32)) ->
  qB4 st ls cs = some st' -> ∃ ρ', qDl φ ρ ρ' st st' a w (fun y => C y \/ (W y /\ ¬ B y)) (ls.flatMap fun l => l.flatMap qAP.boxNames)
 | [], [], [], W, C, ρ, st, st', h, _, _, _, _, _, _, _, _, _, he => by
  simp only [qB4, Option.some.injEq] at he
  subst he
  exact ⟨ρ, qDl.refl h _⟩
 | [], _ :: _, vs, W, C, ρ, st, st', h, _, _, _, _, _, _, _, _, _, he => by simp [qB4] at he
 | _ :: _, [], vs, W, C, ρ, st, st', h, _, _, _, _, _, _, _, _, _, he => by simp [qB4] at he
 | l :: ls, c :: cs, [], W, C, ρ, st, st', h, hl, _, _, _, _, _, _, _, _, he => by exact hl.elim
 | l :: ls, c :: cs, v :: vs, W, C, ρ, st, st', h, hl, hF, aF, aW, hc, hZ, hCW, hn, hnn, he => by
  obtain ⟨W1, W2, w1, w2, l1, l2⟩ := hl
  obtain ⟨C1, C2, c1, c2, k1, k2⟩ := hc
  simp only [qB4] at he
  split at he
  ·rename_i st1 h1
   have z1 : ∀ y, (C1 y \/ (W1 y /\ ¬ B y)) -> (C y \/ (W y /\ ¬ B y)) := fun y hy => hy.imp (fun h => (c1 y h).1) fun h => ⟨(w1 y h.1).1, h.2⟩
   have z2 : ∀ y, (C2 y \/ (W2 y /\ ¬ B y)) -> (C y \/ (W y /\ ¬ B y)) := fun y hy => hy.imp (c2 y) fun h => ⟨w2 y h.1, h.2⟩
   obtain ⟨ρ1, q⟩ := qHT h l1 hF aF (aW.mono fun y hy => ⟨(w1 y hy.1).1, hy.2⟩) k1 (hZ.sub z1) (fun y hy hh => hCW y (c1 y hy).1 ⟨(w1 y hh.1).1, hh.2⟩) (hn l List.mem_cons_self)
    (fun x hx y hy => hnn l List.mem_cons_self l List.mem_cons_self x hx y hy) h1
   have hap2 : qI φ ρ1 st1 w fun y => C2 y \/ (W2 y /\ ¬ B y) := q.apart _ (hZ.sub z2) fun y hy hh => by
    rcases hy with hy | hy <;> rcases hh with hh | hh
    ·exact (c1 y hh).2 hy
    ·exact hCW y (c2 y hy) ⟨(w1 y hh.1).1, hh.2⟩
    ·exact hCW y (c1 y hh).1 ⟨w2 y hy.1, hy.2⟩
    ·exact (w1 y hh.1).2 hy.1
   obtain ⟨ρ2, b2⟩ := qFV q.rep l2 (fun y hy => by rw [q.F]; exact hF y hy) aF (aW.mono fun y hy => ⟨w2 y hy.1, hy.2⟩) (k2.imp fun c C v _ hh => by rw [q.F]; exact hh) hap2 (fun y hy hh => hCW y (c2 y hy) ⟨w2 y hh.1, hh.2⟩)
    (fun l' hl' x hx => ⟨fun d hd => by
     have e1 := q.val d fun b hb => by
      obtain ⟨y, hy, hb⟩ := List.mem_flatMap.1 hb
      exact hnn l' (List.mem_cons_of_mem _ hl') l List.mem_cons_self x hx y hy d hd b hb
     have e2 := (hn l' (List.mem_cons_of_mem _ hl') x hx).1 d hd
     exact ⟨e1.1.trans e2.1, e1.2.trans e2.2⟩, fun b hb => by rw [q.blk]; exact (hn l' (List.mem_cons_of_mem _ hl') x hx).2 b hb⟩)
    (fun x hx y hy => hnn x (List.mem_cons_of_mem _ hx) y (List.mem_cons_of_mem _ hy)) he
   exact ⟨ρ2, q.trans b2 z1 z2⟩
  ·cases he
theorem wY : ∀ {ds : List (Nat × Nat)} {ρ : Env} {st : St}, (∀ p, p ∈ ds -> p.2 <= 1) -> Rep φ ρ st a w ->
  ∃ ρ', ρ.Le ρ' /\ (∀ e y, ρ'.ft e y -> ρ.ft e y) /\ (∀ y, xO ρ ds [] y -> (∀ p, p ∈ ds -> ∃ r, st.row? p.1 = some r) -> ρ'.F y) /\ Rep φ ρ' (zO st ds) a w /\
   (∀ Z, qI φ ρ st w Z -> qI φ ρ' (zO st ds) w Z) /\ (zO st ds).boxes = st.boxes
 | [], ρ, st, _, h => ⟨ρ, Env.Le.refl ρ, fun _ _ h => h, fun y hy _ => (by
   rcases hy with hy | ⟨p, hp, _⟩ | ⟨b, hb, _⟩
   ·exact hy
   ·cases hp
   ·cases hb), h, fun _ h => h, rfl⟩
 | (d, k) :: ds, ρ, st, hk, h => by
  have hk1 : k <= 1 := hk (d, k) List.mem_cons_self
  have hks : ∀ p, p ∈ ds -> p.2 <= 1 := fun p hp => hk p (List.mem_cons_of_mem _ hp)
  simp only [zO]
  split
  ·rename_i r hr
   obtain ⟨ρ1, l1, f1, n1, c1, s1, h1⟩ := h.lowRow (qM hr) (qN hr) (k := Nat.min r.m k) (Nat.min_le_left _ _)
   obtain ⟨ρ2, l2, f2, s2, h2, a2, b2⟩ := wY hks h1
   refine ⟨ρ2, l1.trans l2, fun e y hy => f1 e y (f2 e y hy), fun y hy hall => ?_, h2, fun Z hZ => a2 Z (hZ.low (r' := { r with m := Nat.min r.m k }) (qM hr) f1 l1.blk n1), b2⟩
   have hall' : ∀ p, p ∈ ds -> ∃ r', ({ st with rows := put d { r with m := Nat.min r.m k } st.rows } : St).row? p.1 = some r' := fun p hp => by
    simp only [St.row?, qP]
    by_cases hpd : p.1 = d
    ·simp only [if_pos hpd, qN hr]; exact ⟨_, rfl⟩
    ·simp only [if_neg hpd]; exact hall p (List.mem_cons_of_mem _ hp)
   rcases hy with hy | ⟨p, hp, hf, hp2⟩ | ⟨b, hb, _⟩
   ·exact l2.F y (l1.F y hy)
   ·rcases List.mem_cons.1 hp with rfl | hp
    ·have hmin : Nat.min r.m k = 0 \/ Nat.min r.m k = k := by
      rcases Nat.le_total r.m k with h' | h'
      ·have : Nat.min r.m k = r.m := Nat.min_eq_left h'
       rw [this]; omega
      ·right; exact Nat.min_eq_right h'
     refine l2.F y (s1 y hf ?_)
     rcases hmin with hm | hm
     ·exact .inl hm
     ·rw [hm]
      rcases hp2 with hp2 | hp2
      ·exact .inl hp2
      ·simp only at hp2
       rcases Nat.eq_zero_or_pos k with h0 | h0
       ·exact .inl h0
       ·exact .inr ⟨by omega, hp2⟩
    ·rcases c1 p.1 y hf with hf | hf
     ·exact s2 y (.inr (.inl ⟨p, hp, hf, hp2.imp id fun hp2 => by rw [l1.val]; exact hp2⟩)) hall'
     ·exact l2.F y hf
   ·cases hb
  ·rename_i hr
   obtain ⟨ρ2, l2, f2, s2, h2, a2, b2⟩ := wY hks h
   refine ⟨ρ2, l2, f2, fun y hy hall => ?_, h2, a2, b2⟩
   obtain ⟨r, hr'⟩ := hall (d, k) List.mem_cons_self
   rw [hr] at hr'; cases hr'
theorem wE : ∀ {bs : List Nat} {ρ : Env} {st : St}, Rep φ ρ st a w ->
  ∃ ρ', ρ.Le ρ' /\ ρ'.ft = ρ.ft /\ (∀ b x, b ∈ bs -> qL b st.boxes = some x -> ρ'.F (ρ.blk b)) /\ Rep φ ρ' (zH st bs) a w /\ (∀ Z, qI φ ρ st w Z -> qI φ ρ' (zH st bs) w Z)
 | [], ρ, st, h => ⟨ρ, Env.Le.refl ρ, rfl, fun b x hb => (by cases hb), h, fun _ h => h⟩
 | b :: bs, ρ, st, h => by
  simp only [zH]
  split
  ·rename_i x hx
   have h1 := h.freezeBox hx
   obtain ⟨ρ2, l2, f2, s2, h2, a2⟩ := wE (bs := bs) h1
   have l1 : ρ.Le (ρ.addF fun y => y = ρ.blk b) := ⟨fun y hy => .inl hy, fun _ h => h, rfl, rfl, rfl⟩
   refine ⟨ρ2, l1.trans l2, f2, fun b' x' hb' hx' => ?_, h2, fun Z hZ => a2 Z ⟨hZ.row, fun b' x' hx' => ?_, fun y hy => ⟨fun hf => ?_, (hZ.here y hy).2⟩⟩⟩
   ·rcases List.mem_cons.1 hb' with rfl | hb'
    ·exact l2.F _ (.inr rfl)
    ·refine s2 b' (if b' = b then { x with ro := true } else x') hb' ?_
     rw [qP]
     by_cases hh : b' = b
     ·simp [hh]
     ·simp [hh, hx']
   ·simp only [qP] at hx'
    by_cases hh : b' = b
    ·subst hh; exact hZ.box b' x hx
    ·rw [if_neg hh] at hx'; exact hZ.box b' x' hx'
   ·rcases hf with hf | hf
    ·exact (hZ.here y hy).1 hf
    ·subst hf; exact hZ.box b x hx hy
  ·rename_i hx
   obtain ⟨ρ2, l2, f2, s2, h2, a2⟩ := wE (bs := bs) h
   refine ⟨ρ2, l2, f2, fun b' x' hb' hx' => ?_, h2, a2⟩
   rcases List.mem_cons.1 hb' with rfl | hb'
   ·rw [hx] at hx'; cases hx'
   ·exact s2 b' x' hb' hx'
theorem jM.setBlk {b nb : Nat} {c : CV} (hc : c.says (CV.pts b) = false) : jM ρ (ρ.setBlk b nb) w w c :=
 ⟨fun _ h => h, qC.refl _ _, fun _ _ => ⟨rfl, rfl⟩, fun d _ ho => ⟨ho, fun _ _ _ _ _ => qC.refl _ _⟩, fun b' hb' => by
  have : b' ≠ b := by rintro rfl; rw [hc] at hb'; cases hb'
  simp [Env.setBlk, this]⟩
theorem Rep.newBox (h : Rep φ ρ st a w) {b : Nat} {x : Box} {arr : Array Value} {fr : Nat × Nat} {nb : Nat} (hnb : qI φ ρ st w fun y => y = nb) (hit : x.it = false) (harr : w.heap[nb]? = some (.cells arr x.e fr)) (hfr : qBq arr.size fr)
  (hc : jC (CVR ρ w) x.cs arr.toList) (hp : ∀ c ∈ x.cs, c.says (CV.pts b) = false) : Rep φ (ρ.setBlk b nb) (st.newBox b x) a w := by
 have m : ∀ c : CV, c.says (CV.pts b) = false -> jM ρ (ρ.setBlk b nb) w w c := fun c hc => jM.setBlk hc
 have hbx : ∀ {b' y}, qL b' (del b (st.kill (CV.pts b)).boxes) = some y -> b' ≠ b /\ qL b' (st.kill (CV.pts b)).boxes = some y := fun {b' y} hy => vH hy
 have hbx' : ∀ {b' y}, qL b' (del b (st.kill (CV.pts b)).boxes) = some y -> b' ≠ b /\ ∃ y', qL b' st.boxes = some y' /\ y.ro = y'.ro := fun {b' y} hy => by
  obtain ⟨hn, hy⟩ := hbx hy
  obtain ⟨y', hy', rfl⟩ := qK hy
  exact ⟨hn, y', hy', rfl⟩
 have blk : ∀ {b'}, b' ≠ b -> (ρ.setBlk b nb).blk b' = ρ.blk b' := fun hn => by simp [Env.setBlk, hn]
 have hb : (ρ.setBlk b nb).blk b = nb := by simp [Env.setBlk]
 have h1 : Rep φ (ρ.setBlk b nb) { st.kill (CV.pts b) with boxes := del b (st.kill (CV.pts b)).boxes, lentB := st.lentB.filter fun y => !(y == b) } a w := {
  size := h.size, nodef := h.nodef, on := h.on
  slots := h.slots_kill m
  rows := fun d r hd => h.rows d r hd
  boxes := fun b' y hy => by
   obtain ⟨hn, hy⟩ := hbx hy
   obtain ⟨y', hy', rfl⟩ := qK hy
   obtain ⟨arr', fr', k1, k2, k3⟩ := h.boxes b' y' hy'
   exact ⟨arr', fr', by rw [blk hn]; exact k1, k2, yF (fun c v _ hc => qBG (m c) hc) k3⟩
  rsep := h.rsep, rF := h.rF
  rb := fun d r b' y hd hy => by obtain ⟨hn, y', hy', _⟩ := hbx' hy; rw [blk hn]; exact h.rb d r b' y' hd hy'
  bsep := fun b1 b2 x1 x2 k1 k2 hn => by
   obtain ⟨n1, y1, e1, _⟩ := hbx' k1
   obtain ⟨n2, y2, e2, _⟩ := hbx' k2
   rw [blk n1, blk n2]; exact h.bsep b1 b2 y1 y2 e1 e2 hn
  bF := fun b' y hy => by obtain ⟨hn, y', hy', e⟩ := hbx' hy; rw [blk hn, e]; exact h.bF b' y' hy'
  Fbd := h.Fbd, F0 := h.F0, grow := h.grow, io := h.io, tab := h.tab, keep := h.keep, lentR := h.lentR
  lentB := fun b' hb' => by
   have h1 := List.mem_filter.1 hb'
   have : b' ≠ b := by rintro rfl; simp at h1
   rw [blk this]; exact h.lentB b' h1.1 }
 have ap1 : qI φ (ρ.setBlk b nb) { st.kill (CV.pts b) with boxes := del b (st.kill (CV.pts b)).boxes, lentB := st.lentB.filter fun y => !(y == b) } w fun y => y = (ρ.setBlk b nb).blk b := by
  rw [hb]
  exact ⟨hnb.row, fun b' y hy => by obtain ⟨hn, y', hy', _⟩ := hbx' hy; rw [blk hn]; exact hnb.box b' y' hy', hnb.here⟩
 have h2 := qHU h1 (b := b) (x := x) (fr := fr) ap1 hit (by rw [hb]; exact harr) hfr (hc.impMem fun c v hcm hv => jP (m c (hp c hcm)) hv)
 have e : { ({ st.kill (CV.pts b) with boxes := del b (st.kill (CV.pts b)).boxes, lentB := st.lentB.filter fun y => !(y == b) } : St) with boxes := put b x (del b (st.kill (CV.pts b)).boxes) } = { st.newBox b x with boxes := put b x (del b (st.kill (CV.pts b)).boxes) } := rfl
 have hl : ∀ b', qL b' (put b x (del b (st.kill (CV.pts b)).boxes)) = qL b' (put b x (st.kill (CV.pts b)).boxes) := fun b' => by
  rw [qP, qP, wL]
  split
  ·rfl
  ·rfl
 exact h2.less h2.on (fun _ _ h => h) (fun _ _ h => h) (fun b' y hy => by
  show qL b' (put b x (del b (st.kill (CV.pts b)).boxes)) = some y
  rw [hl]; exact hy) (fun _ h => h) (fun _ h => h)
theorem wS {base b : Nat} : ∀ {cs : List CV} {vs : List Value} {j : Nat} {st : St} {F B : Nat -> Prop}, Sep (BC0 F w) cs B vs -> ∀ c ∈ (qH st base j cs).1, c.says (CV.pts b) = false
 | [], [], j, st, F, B, _, c, hc => by cases hc
 | x :: cs, v :: vs, j, st, F, B, h, c, hc => by
  obtain ⟨B1, B2, _, _, h1, h2⟩ := h
  have plain : (∀ r, x ≠ .row r) -> c ∈ x :: (qH st base (j + 1) cs).1 -> c.says (CV.pts b) = false := by
   intro hn hm
   rcases List.mem_cons.1 hm with rfl | hm
   ·have hp : c.plain = true := by cases c <;> first | exact h1.1 | exact absurd rfl (hn _)
    exact (kP hp).2 b
   ·exact wS h2 c hm
  cases x with
  | row r =>
   simp only [qH] at hc
   rcases List.mem_cons.1 hc with rfl | hc
   ·rfl
   ·exact wS h2 c hc
  | _ => exact plain (fun r => by intro e; cases e) hc
theorem qJN {dst j : Nat} {v : SV} {x : Value} {B : Nat -> Prop} (h : Rep φ ρ st a w) (hB : qI φ ρ st w B) (hv : BV ρ.F w v B x) (hk : ∀ f n cs, v ≠ .clo f n cs) : ∃ ρ', Rep φ ρ' (qDH st dst j v).2.1 a w /\ qEH ρ' w (qDH st dst j v).1 x := by
 cases v with
 | c y =>
  rcases kG (show BC ρ.F w y B x from hv) with ⟨e, cs, rfl⟩ | ⟨hn, h0⟩
  ·obtain ⟨nb, arr, fr, B1, q1, q2, q3, q4, q5, q6⟩ := (hv : BC ρ.F w (.boxr e cs) B x)
   simp only [qDH]
   obtain ⟨ρ', p, q⟩ := jX (base := qS dst) (j := 0) h (hB.sub fun y hy => (q5 y hy).1) q6
   have hap : qI φ ρ' (qH st (qS dst) 0 cs).2 w fun y => y = nb := p.apart _ (hB.sub fun y hy => by subst hy; exact q4) fun y hy hh => by subst hy; exact (q5 _ hh).2 rfl
   refine ⟨_, p.rep.newBox (b := dst) (x := { e := e, cs := (qH st (qS dst) 0 cs).1, ro := false }) hap rfl q2 q3 q (wS q6), ?_⟩
   show x = .pointer (some ⟨(ρ'.setBlk dst nb).blk dst, 0, none⟩)
   rw [q1]; simp [Env.setBlk]
  ·have hs : Sep (BC0 ρ.F w) [y] B [x] := Sep.one h0
   obtain ⟨ρ', p, q⟩ := jX (base := 32 * dst) (j := j) h hB hs
   have e : qDH st dst j (.c y) = (.c ((qH st (32 * dst) j [y]).1.headD .undef), (qH st (32 * dst) j [y]).2, j + 1) := by
    cases y with
    | boxr e cs => exact absurd rfl (hn e cs)
    | row r => rfl
    | _ => rfl
   rw [e]
   refine ⟨ρ', p.rep, ?_⟩
   generalize (qH st (32 * dst) j [y]).1 = ys at q
   match ys, q with
   | [z], q => exact q.1
 | agg xs =>
  obtain ⟨arr, rfl, hs⟩ := hv
  obtain ⟨ρ', p, q⟩ := jX (base := 32 * dst) (j := j) h hB hs
  exact ⟨ρ', p.rep, arr, rfl, q⟩
 | undef => exact hv.elim
 | clo _ _ _ => exact absurd rfl (hk _ _ _)
 | tup _ => exact hv.elim
theorem qJM {dst j : Nat} {v : SV} {x : Value} {B : Nat -> Prop} (h : Rep φ ρ st a w) (hB : qI φ ρ st w B) (hv : BV ρ.F w v B x) (hn : ∀ e cs, v ≠ .c (.boxr e cs)) (hk : ∀ f n cs, v ≠ .clo f n cs) :
  ∃ ρ', qHY φ ρ ρ' st (qDH st dst j v).2.1 a w B (32 * dst + j) (32 * dst + (qDH st dst j v).2.2) /\ qEH ρ' w (qDH st dst j v).1 x /\ j <= (qDH st dst j v).2.2 /\
   ∀ c ∈ (qDH st dst j v).1.all, (∀ lo hi, 32 * dst + (qDH st dst j v).2.2 <= lo -> c.says (CV.within lo hi) = false) := by
 have names : ∀ {cs : List CV} {vs : List Value} {j : Nat} {st : St} {F B : Nat -> Prop}, Sep (BC0 F w) cs B vs -> ∀ c ∈ (qH st (32 * dst) j cs).1, ∀ lo hi, 32 * dst + (j + cs.length) <= lo -> c.says (CV.within lo hi) = false := by
  intro cs
  induction cs with
  | nil => intro vs j st F B hs c hc; cases hc
  | cons y cs ih =>
   intro vs j st F B hs c hc lo hi hlo
   cases vs with
   | nil => exact hs.elim
   | cons u us =>
    obtain ⟨B1, B2, _, _, h1, h2⟩ := hs
    simp only [List.length_cons] at hlo
    have plain : (∀ r, y ≠ .row r) -> c ∈ y :: (qH st (32 * dst) (j + 1) cs).1 -> c.says (CV.within lo hi) = false := by
     intro hn hm
     rcases List.mem_cons.1 hm with rfl | hm
     ·have hp : c.plain = true := by cases c <;> first | exact h1.1 | exact absurd rfl (hn _)
      rw [Bool.eq_false_iff]
      intro hh
      obtain ⟨d, _, _, q⟩ := jE.1 hh
      rw [(kP hp).1 d] at q; cases q
     ·exact ih h2 c hm lo hi (by omega)
    cases y with
    | row r =>
     simp only [qH] at hc
     rcases List.mem_cons.1 hc with rfl | hc
     ·rw [Bool.eq_false_iff]
      intro hh
      obtain ⟨d, q1, _, q⟩ := jE.1 hh
      simp only [CV.says, CV.speaks, Bool.or_false, beq_iff_eq] at q
      omega
     ·exact ih h2 c hc lo hi (by omega)
    | _ => exact plain (fun r => by intro e; cases e) hc
 cases v with
 | c y =>
  rcases kG (show BC ρ.F w y B x from hv) with ⟨e, cs, rfl⟩ | ⟨hn', h0⟩
  ·exact absurd rfl (hn e cs)
  ·have hs : Sep (BC0 ρ.F w) [y] B [x] := Sep.one h0
   obtain ⟨ρ', p, q⟩ := jX (base := 32 * dst) (j := j) h hB hs
   have e : qDH st dst j (.c y) = (.c ((qH st (32 * dst) j [y]).1.headD .undef), (qH st (32 * dst) j [y]).2, j + 1) := by
    cases y with
    | boxr e cs => exact absurd rfl (hn' e cs)
    | row r => rfl
    | _ => rfl
   rw [e]
   have nm := names (st := st) (j := j) hs
   generalize hys : (qH st (32 * dst) j [y]).1 = ys at q nm
   match ys, q with
   | [z], q =>
    refine ⟨ρ', by simpa [Nat.add_assoc] using p, q.1, by simp, fun c hc lo hi hlo => ?_⟩
    simp only [List.headD_cons, SV.all, List.mem_singleton] at hc
    subst hc
    exact nm _ List.mem_cons_self lo hi (by simpa using hlo)
 | agg xs =>
  obtain ⟨arr, rfl, hs⟩ := hv
  obtain ⟨ρ', p, q⟩ := jX (base := 32 * dst) (j := j) h hB hs
  exact ⟨ρ', by simpa [qDH, Nat.add_assoc] using p, ⟨arr, rfl, q⟩, by simp [qDH], fun c hc lo hi hlo => names hs c hc lo hi (by simpa [qDH] using hlo)⟩
 | undef => exact hv.elim
 | clo _ _ _ => exact absurd rfl (hk _ _ _)
 | tup _ => exact hv.elim
theorem qHE {dst : Nat} : ∀ {vs : List SV} {xs : List Value} {j : Nat} {ρ : Env} {st : St} {B : Nat -> Prop}, Rep φ ρ st a w -> qI φ ρ st w B -> Sep (BV ρ.F w) vs B xs -> (∀ v ∈ vs, (∀ e cs, v ≠ .c (.boxr e cs)) /\ ∀ f n cs, v ≠ .clo f n cs) ->
  ∃ ρ' hi, qHY φ ρ ρ' st (qLc st dst j vs).2 a w B (32 * dst + j) hi /\ jC (qEH ρ' w) (qLc st dst j vs).1 xs
 | [], [], j, ρ, st, B, h, _, _, _ => ⟨ρ, 0, qHY.refl h _ _ _, trivial⟩
 | v :: vs, x :: xs, j, ρ, st, B, h, hB, hs, hn => by
  obtain ⟨B1, B2, d1, d2, h1, h2⟩ := hs
  obtain ⟨ρ1, p1, q1, hj, nm⟩ := qJM (dst := dst) (j := j) h (hB.sub fun y hy => (d1 y hy).1) h1 (hn v List.mem_cons_self).1 (hn v List.mem_cons_self).2
  obtain ⟨ρ2, hi, p2, q2⟩ := qHE (dst := dst) (j := (qDH st dst j v).2.2) p1.rep (p1.apart B2 (hB.sub d2) fun y hy hh => (d1 y hh).2 hy) (h2.imp fun _ _ _ _ hh => by rw [p1.F]; exact hh) fun u hu => hn u (List.mem_cons_of_mem _ hu)
  refine ⟨ρ2, max hi (32 * dst + (qDH st dst j v).2.2), p1.trans p2 (fun y hy => (d1 y hy).1) d2 (fun _ => ⟨by omega, by omega⟩) (fun _ => ⟨by omega, by omega⟩), ?_, q2⟩
  exact qDb (fun c hc => p2.moves c (nm c hc _ _ (Nat.le_refl _))) q1
end
section
variable {φ : Fix} {ρ : Env} {st : St} {a : Act} {w : World} {P : Program} {C : Ctx}
theorem qHe {st : St} {n : Nat} : ∀ {c c' : CV} {ds : List (Nat × Nat)} {bs : List Nat}, rdC st n c = some (c', ds, bs) -> ∀ p ∈ ds, p.2 <= 1 := by
 induction n with
 | zero => intro c c' ds bs h; simp [rdC] at h
 | succ n ih =>
  have many : ∀ {cs cs' : List CV} {ds : List (Nat × Nat)} {bs : List Nat}, qAq (rdC st n) cs = some (cs', ds, bs) -> ∀ p ∈ ds, p.2 <= 1 := by
   intro cs
   induction cs with
   | nil => intro cs' ds bs h p hp; simp only [qAq, Option.some.injEq, Prod.mk.injEq] at h; obtain ⟨_, rfl, _⟩ := h; cases hp
   | cons c cs ihc =>
    intro cs' ds bs h p hp
    simp only [qAq] at h
    split at h
    ·rename_i y ds1 bs1 hy
     split at h
     ·rename_i ys ds2 bs2 hys
      simp only [Option.some.injEq, Prod.mk.injEq] at h
      obtain ⟨_, rfl, _⟩ := h
      rcases List.mem_append.1 hp with hp | hp
      ·exact ih hy p hp
      ·exact ihc hys p hp
     ·cases h
    ·cases h
  intro c c' ds bs h p hp
  cases c with
  | pbox b off =>
   simp only [rdC] at h
   split at h
   ·split at h
    ·rename_i hm
     split at h
     ·split at h
      ·simp only [Option.some.injEq, Prod.mk.injEq] at h
       obtain ⟨_, rfl, _⟩ := h
       exact many hm p hp
      ·cases h
     ·cases h
    ·cases h
   ·cases h
  | fn f sh k cs =>
   simp only [rdC] at h
   split at h
   ·rename_i hm
    simp only [Option.some.injEq, Prod.mk.injEq] at h
    obtain ⟨_, rfl, _⟩ := h
    exact many hm p hp
   ·cases h
  | _ =>
   simp only [rdC] at h
   repeat' split at h
   all_goals first
    | (cases h; done)
    | (simp only [Option.some.injEq, Prod.mk.injEq] at h; obtain ⟨_, rfl, _⟩ := h; first | (cases hp; done) | (rw [List.mem_singleton] at hp; subst hp; first | exact Nat.le_refl 1 | exact Nat.zero_le 1))
theorem qJk {v v' : SV} {ds : List (Nat × Nat)} {bs : List Nat} (h : rdS st v = some (v', ds, bs)) : ∀ p ∈ ds, p.2 <= 1 := by
 have many : ∀ {cs cs' : List CV} {ds : List (Nat × Nat)} {bs : List Nat}, qAq (rdC st 4) cs = some (cs', ds, bs) -> ∀ p ∈ ds, p.2 <= 1 := by
  intro cs
  induction cs with
  | nil => intro cs' ds bs h p hp; simp only [qAq, Option.some.injEq, Prod.mk.injEq] at h; obtain ⟨_, rfl, _⟩ := h; cases hp
  | cons c cs ihc =>
   intro cs' ds bs h p hp
   simp only [qAq] at h
   split at h
   ·rename_i y ds1 bs1 hy
    split at h
    ·rename_i ys ds2 bs2 hys
     simp only [Option.some.injEq, Prod.mk.injEq] at h
     obtain ⟨_, rfl, _⟩ := h
     rcases List.mem_append.1 hp with hp | hp
     ·exact qHe hy p hp
     ·exact ihc hys p hp
    ·cases h
   ·cases h
 cases v with
 | c x =>
  simp only [rdS] at h
  split at h
  ·rename_i hy; simp only [Option.some.injEq, Prod.mk.injEq] at h; obtain ⟨_, rfl, _⟩ := h; exact qHe hy
  ·cases h
 | agg xs =>
  simp only [rdS] at h
  split at h
  ·rename_i hy; simp only [Option.some.injEq, Prod.mk.injEq] at h; obtain ⟨_, rfl, _⟩ := h; exact many hy
  ·cases h
 | _ => simp [rdS] at h
theorem kV : ∀ {vs : List SV} {ms : List Nat} {st : St} {e : Exp}, jS st ms vs = some e -> ∀ p ∈ e.peeks, p.2 <= 1
 | [], ms, st, e, h, p, hp => by simp only [jS, Option.some.injEq] at h; subst h; cases hp
 | v :: vs, ms, st, e, h, p, hp => by
  simp only [jS] at h
  split at h
  ·split at h
   ·rename_i hr
    split at h
    ·rename_i e2 h2
     simp only [Option.some.injEq] at h
     subst h
     rcases List.mem_append.1 hp with hp | hp
     ·exact qJk hr p hp
     ·exact kV h2 p hp
    ·cases h
   ·cases h
  ·split at h
   ·split at h
    ·split at h
     ·rename_i e2 h2
      simp only [Option.some.injEq] at h
      subst h
      exact kV h2 p hp
     ·cases h
    ·cases h
   ·cases h
  ·split at h
   ·split at h
    ·rename_i e2 h2
     simp only [Option.some.injEq] at h
     subst h
     exact kV h2 p hp
    ·cases h
   ·cases h
  ·split at h
   ·split at h
    ·split at h
     ·split at h
      ·rename_i e2 h2
       simp only [Option.some.injEq] at h
       subst h
       exact kV h2 p hp
      ·cases h
     ·cases h
    ·cases h
   ·cases h
  ·split at h
   ·split at h
    ·split at h
     ·rename_i e2 h2
      simp only [Option.some.injEq] at h
      subst h
      exact kV h2 p hp
     ·cases h
    ·cases h
   ·cases h
  ·split at h
   ·split at h
    ·split at h
     ·rename_i e2 h2
      simp only [Option.some.injEq] at h
      subst h
      exact kV h2 p hp
     ·cases h
    ·cases h
   ·cases h
theorem qFu {o : Nat -> Prop} {e : Exp} {w' : World} {B W : Nat -> Prop} {ms : List Nat} {xs : List Value} {r : RES} {v : Value} {dst : Nat} {sv : SV} {st' : St} (h : Rep φ (ρ.onW o) e.st a w) (hW : qI φ ρ e.st w W) (hBW : ∀ y, B y -> W y)
  (hl : Sep (Sep (qDo ρ w B)) e.lent W (jZ ms xs)) (hpk : ∀ p ∈ e.peeks, p.2 <= 1) (hok : e.ok = true) (post : qNm (xO ρ e.peeks e.peekB) B w w' ms xs r v) (he : kU e dst r = some (sv, st')) : ∃ ρ', Rep φ ρ' st' a w' /\ SVR ρ' w' sv v := by
 unfold Exp.ok at hok
 simp only [Bool.and_eq_true, List.all_eq_true] at hok
 obtain ⟨⟨⟨_, hpr⟩, hpb⟩, hna⟩ := hok
 obtain ⟨psize, pio, pkeep, F', B1, B2, pF, pF', pB, pd, pret, pouts⟩ := post
 unfold kU at he
 split at he
 ·cases he
 rename_i hsm
 have hsm' : r.ret.small = true := by simpa using hsm
 have r1 : Rep φ (ρ.onW o) e.st a w' := h.alter (K := B) (hW.onW.sub hBW) psize pio pkeep
 have hW1 : qI φ (ρ.onW o) e.st w' W := ⟨hW.row, hW.box, fun y hy => ⟨(hW.here y hy).1, Nat.lt_of_lt_of_le (hW.here y hy).2.1 psize, (hW.here y hy).2.2⟩⟩
 have hfresh : qI φ (ρ.onW o) e.st w' fun y => w.heap.size <= y /\ y < w'.heap.size :=
  ⟨fun d rr hd y hy hh => (by have := (h.rF d rr hd y hy).2.1; omega), fun b x hx hh => (by
   obtain ⟨arr, fr, k1, _⟩ := h.boxes b x hx
   have := k1.lt
   omega),
   fun y hy => ⟨fun hf => (by have := (h.Fbd y hf).1; omega), hy.2, .inr (Nat.le_trans h.grow hy.1)⟩⟩
 have key : ∃ ρ3, Rep φ ρ3 (if r.ret.leads || r.outs.any (fun cs => cs.any CV.leads) then zH (zO e.st e.peeks) e.peekB else e.st) a w' /\ ρ.F = (ρ.onW o).F /\ (ρ.onW o).Le ρ3 /\
   (∀ Z, qI φ (ρ.onW o) e.st w' Z -> qI φ ρ3 (if r.ret.leads || r.outs.any (fun cs => cs.any CV.leads) then zH (zO e.st e.peeks) e.peekB else e.st) w' Z) /\
   ((r.ret.leads || r.outs.any (fun cs => cs.any CV.leads)) = true -> ∀ y, xO ρ e.peeks e.peekB y -> ρ3.F y) := by
  split
  ·obtain ⟨ρ2, l2, f2, s2, h2, a2, b2⟩ := wY hpk r1
   obtain ⟨ρ3, l3, f3, s3, h3, a3⟩ := wE (bs := e.peekB) h2
   refine ⟨ρ3, h3, rfl, l2.trans l3, fun Z hZ => a3 Z (a2 Z hZ), fun _ y hy => ?_⟩
   have hall : ∀ p, p ∈ e.peeks -> ∃ r, e.st.row? p.1 = some r := fun p hp => Option.isSome_iff_exists.1 (hpr p hp)
   rcases hy with hy | hy | ⟨b, hb, e1⟩
   ·exact l3.F y (l2.F y hy)
   ·exact l3.F y (s2 y (.inr (.inl hy)) hall)
   ·obtain ⟨x, hx⟩ := Option.isSome_iff_exists.1 (hpb b hb)
    have := s3 b x hb (by rw [b2]; exact hx)
    rw [l2.blk] at this
    rw [<- e1]; exact this
  ·rename_i hn
   exact ⟨ρ.onW o, r1, rfl, Env.Le.refl _, fun _ h => h, fun hh => absurd hh hn⟩
 obtain ⟨ρ3, r3, _, le3, a3, s3⟩ := key
 generalize hst0 : (if r.ret.leads || r.outs.any (fun cs => cs.any CV.leads) then zH (zO e.st e.peeks) e.peekB else e.st) = st0 at r3 a3 he
 have wsz : ∀ y, W y -> y < w.heap.size := fun y hy => (hW.here y hy).2.1
 have hG : qI φ ρ3 st0 w' fun y => F' y /\ (B y \/ w.heap.size <= y) := ((a3 W hW1).or (a3 _ hfresh)).sub fun y hy => by
  rcases hy.2 with hb | hb
  ·exact .inl (hBW y hb)
  ·exact .inr ⟨hb, (pF' y hy.1).1⟩
 have r4 := r3.addF hG
 have hZ : qI φ (ρ3.addF fun y => F' y /\ (B y \/ w.heap.size <= y)) st0 w' fun y => (B1 y \/ B2 y) \/ (W y /\ ¬ B y) := by
  refine qI.addF (((a3 W hW1).or (a3 _ hfresh)).sub fun y hy => ?_) fun y hy hg => ?_
  ·rcases hy with hy | hy
   ·rcases (pB y hy).2.2 with hb | hb
    ·exact .inl (hBW y hb)
    ·exact .inr ⟨hb, (pB y hy).2.1⟩
   ·exact .inl hy.1
  ·rcases hy with hy | hy
   ·exact (pB y hy).1 hg.1
   ·rcases hg.2 with hb | hb
    ·exact hy.2 hb
    ·have := wsz y hy.1; omega
 generalize hρ4 : (ρ3.addF fun y => F' y /\ (B y \/ w.heap.size <= y)) = ρ4 at r4 hZ
 have v4 : ρ4.val = ρ.val := by rw [<- hρ4]; exact le3.val
 have t4 : ρ4.ty = ρ.ty := by rw [<- hρ4]; exact le3.ty
 have b4 : ρ4.blk = ρ.blk := by rw [<- hρ4]; exact le3.blk
 have F4 : ∀ y, ρ.F y -> ρ4.F y := fun y hy => by rw [<- hρ4]; exact .inl (le3.F y hy)
 have F4' : (r.ret.leads || r.outs.any (fun cs => cs.any CV.leads)) = true -> ∀ y, F' y -> ρ4.F y := fun hh y hy => by
  rw [<- hρ4]
  rcases (pF' y hy).2 with hf | hb | hb
  ·exact .inl (s3 hh y hf)
  ·exact .inr ⟨hy, .inl hb⟩
  ·exact .inr ⟨hy, .inr hb⟩
 have pret' : BR ρ4.F w' r.ret B1 v := by
  by_cases hh : (r.ret.leads || r.outs.any (fun cs => cs.any CV.leads)) = true
  ·exact qNa (F4' hh) (qC.refl _ _) (qC.refl _ _) pret
  ·rw [Bool.not_eq_true, Bool.or_eq_false_iff] at hh
   exact qNb hh.1 pret
 have pouts' : Sep (Sep (BC ρ4.F w')) r.outs B2 (jZ ms xs) := by
  by_cases hh : (r.ret.leads || r.outs.any (fun cs => cs.any CV.leads)) = true
  ·exact pouts.imp fun l C v _ hl => hl.imp fun c C v _ hc => qBQ (F4' hh) (qC.refl _ _) (qC.refl _ _) hc
  ·rw [Bool.not_eq_true, Bool.or_eq_false_iff] at hh
   have h2 := hh.2
   simp only [List.any_eq_false] at h2
   refine pouts.impMem fun l C v hl _ hh => hh.impMem fun c C v hc _ hb => qKI ?_ hb
   have := h2 l hl
   simp only [List.any_eq_true, not_exists, not_and, Bool.not_eq_true] at this
   exact this c hc
 simp only at he
 cases h1 : qB4 st0 e.lent r.outs with
 | none => rw [h1] at he; cases he
 | some st1 =>
 rw [h1] at he
 simp only at he
 have aF : qC ρ.F w w' := fun y ob hf hy => by
  have hlt : y < w.heap.size := (h.Fbd y hf).1
  rw [pkeep y hlt fun hb => (hW.here y (hBW y hb)).1 hf]; exact hy
 have aW : qC (fun y => W y /\ ¬ B y) w w' := fun y ob hf hy => by
  rw [pkeep y (wsz y hf.1) hf.2]; exact hy
 obtain ⟨ρ5, bk⟩ := qFV r4 hl F4 aF aW pouts' (hZ.sub fun y hy => hy.imp .inr id) (fun y hy hh => by
   rcases (pB y (.inr hy)).2.2 with hb | hb
   ·exact hh.2 hb
   ·have := wsz y hh.1; omega)
  (fun l hl x hx => ⟨fun d hd => by rw [v4, t4]; exact ⟨rfl, rfl⟩, fun b hb => by rw [b4]⟩) (qCQ hna) h1
 have hB1 : qI φ ρ5 st1 w' B1 := bk.apart B1 (hZ.sub fun y hy => .inl (.inl hy)) fun y hy hh => by
  rcases hh with hh | hh
  ·exact pd y hy hh
  ·rcases (pB y (.inl hy)).2.2 with hb | hb
   ·exact hh.2 hb
   ·have := wsz y hh.1; omega
 rw [<- bk.F] at pret'
 cases hret : r.ret with
 | tup vs =>
  rw [hret] at he pret' hsm'
  simp only [Option.some.injEq, Prod.mk.injEq] at he
  obtain ⟨rfl, rfl⟩ := he
  obtain ⟨arr, rfl, hs⟩ := pret'
  obtain ⟨ρ6, hi, p6, q6⟩ := qHE (dst := dst) (j := 0) bk.rep hB1 hs (fun u hu => ⟨fun ee cs hh => by
   subst hh
   simp only [SV.small, List.all_eq_true] at hsm'
   simpa using hsm' _ hu, fun f n cs hh => by
   subst hh
   simp only [SV.small, List.all_eq_true] at hsm'
   simpa using hsm' _ hu⟩)
  exact ⟨ρ6, p6.rep, arr, rfl, q6⟩
 | undef => rw [hret] at pret'; exact (show False from pret').elim
 | clo _ _ _ => rw [hret] at hsm'; simp [SV.small] at hsm'
 | c x =>
  rw [hret] at he pret'
  simp only [Option.some.injEq, Prod.mk.injEq] at he
  obtain ⟨rfl, rfl⟩ := he
  obtain ⟨ρ6, p6, q6⟩ := qJN (dst := dst) (j := 0) bk.rep hB1 (show BV ρ5.F w' (.c x) B1 v from pret') (fun _ _ _ hh => by cases hh)
  refine ⟨ρ6, p6, ?_⟩
  revert q6
  cases (qDH st1 dst 0 (.c x)).1 <;> first | exact id | exact fun q => q.elim
 | agg ys =>
  rw [hret] at he pret'
  simp only [Option.some.injEq, Prod.mk.injEq] at he
  obtain ⟨rfl, rfl⟩ := he
  obtain ⟨ρ6, p6, q6⟩ := qJN (dst := dst) (j := 0) bk.rep hB1 (show BV ρ5.F w' (.agg ys) B1 v from pret') (fun _ _ _ hh => by cases hh)
  refine ⟨ρ6, p6, ?_⟩
  revert q6
  cases (qDH st1 dst 0 (.agg ys)).1 <;> first | exact id | exact fun q => q.elim
theorem qMp : ∀ {sh : List (Bool × Nat)} {cs : List CV} {vs : List Value}, Shaped (zQ ρ w) sh cs vs -> jC (SVR ρ w) (callee.un sh cs) vs
 | [], cs, vs, h => by
  obtain ⟨rfl, rfl⟩ := (by simpa [Shaped] using h : cs = [] /\ vs = [])
  simp [callee.un, jC]
 | (true, k) :: sh, cs, [], h => by simp [Shaped] at h
 | (true, k) :: sh, cs, v :: vs, h => by
  obtain ⟨arr, e, hk, h1, h2⟩ := h
  simp only [callee.un]
  exact ⟨⟨arr, e, h1.imp fun _ _ => zL⟩, qMp h2⟩
 | (false, _) :: sh, [], vs, h => by simp [Shaped] at h
 | (false, _) :: sh, c :: cs, [], h => by simp [Shaped] at h
 | (false, _) :: sh, c :: cs, v :: vs, h => by
  simp only [callee.un, List.drop_succ_cons, List.drop_zero]
  exact ⟨zL h.1, qMp h.2⟩
theorem qKe (h : Rep φ ρ st a w) {o : Oper} {c : Call} (ho : o.op = .call c) {f : FuncId} {args : List SV} (he : callee C st c = some (f, args)) : ∃ xs, jC (SVR ρ w) args xs /\ (execOp a.eval o).run P w = (callFunc f xs.toArray).run P w := by
 obtain ⟨dst, op, ty, pos, af, gd⟩ := o
 simp only at ho
 subst ho
 unfold callee at he
 split at he
 ·cases he
 ·rename_i vs hvs
  split at he
  ·rename_i fo hfo
   split at he
   ·rename_i g sh n cs hx
    simp only [Option.some.injEq, Prod.mk.injEq] at he
    obtain ⟨rfl, rfl⟩ := he
    obtain ⟨first, caps, e1, e2, e3⟩ := (qW h hx : CVR ρ w (.fn g sh n cs) _)
    have hu := qMp e3
    have ha := qCh h hvs
    refine ⟨first.toList ++ (c.args.toList.map a.eval) ++ caps.toList, ?_, ?_⟩
    ·have h1 := hu.take n
     have h2 := hu.drop n
     rw [List.take_left' (by simpa using e2)] at h1
     rw [List.drop_left' (by simpa using e2)] at h2
     exact (h1.append ha).append h2
    ·simp only [execOp, resolve, hfo, e1, Deferred.ofValue]
     show (invoke (.fn (.func g) caps) (first ++ c.args.map a.eval)).run P w = _
     simp only [invoke]
     congr 2
     apply Array.ext'
     simp
   ·cases he
  ·cases he
theorem qLt {o : Oper} {c : Call} (ho : o.op = .call c) (hal : Oper.al C o = true) {f : FuncId} {args : List SV} (he : callee C st c = some (f, args)) : ((C.fi f).modes).all (· == 0) = true := by
 unfold Oper.al at hal
 rw [ho] at hal
 simp only at hal
 split at hal
 ·rename_i g hc
  unfold callee at he
  rw [hc] at he
  split at he
  ·cases he
  ·simp only [opv] at he
   cases he
   exact hal
 ·cases hal
theorem qDA {call : CallF} (hcall : wB P C call) : xI P C call := by
 intro φ ρ st a w o c K h hd ho hnb he Q
 have he' : (match callee C st c with
   | some (f, args) => match jS st (C.fi f).modes args with
    | some e => grd e.ok (call f e.args fun r => match kU e (o.dst.getD 0) r with
     | some (v, st') => K (st'.setO o.dst v)
     | none => False)
    | none => False
   | none => False) := by
  unfold qIE at he
  rw [ho] at he
  revert he
  simp only
  cases hc : c.callee with
  | builtin b => exact absurd hc (hnb b)
  | value f => exact id
  | invoke r m => exact id
 split at he'
 ·rename_i f args hcl
  obtain ⟨xs, hxs, hrun⟩ := qKe (P := P) h ho hcl
  split at he'
  ·rename_i e hex
   cases hok : e.ok with
   | false => rw [hok] at he'; exact he'.elim
   | true =>
    rw [hok] at he'
    have hcallf : call f e.args (fun r => match kU e (o.dst.getD 0) r with
     | some (v, st') => K (st'.setO o.dst v)
     | none => False) := he'
    have hok' := hok
    unfold Exp.ok at hok'
    simp only [Bool.and_eq_true, List.all_eq_true] at hok'
    obtain ⟨⟨⟨hsmall, hpr⟩, hpb⟩, hna⟩ := hok'
    have hfl : ∀ v ∈ e.args, v.flat = true := by
     unfold vL at hsmall
     simp only [Bool.and_eq_true, List.all_eq_true] at hsmall
     exact hsmall.2
    obtain ⟨W, B, hBW, tk, hargs, hl, hz⟩ := zW (ρ := ρ) (o0 := ρ.on) (o := ρ.on) (F := xO ρ e.peeks e.peekB) (fun y hy => .inl hy) h hxs hex (fun y hy => hy) hfl
    obtain ⟨o1, q1⟩ := tk.rep
    have hFB : ∀ y, xO ρ e.peeks e.peekB y -> y < w.heap.size /\ ¬ W y := by
     intro y hy
     rcases hy with hy | ⟨p, hp, hf, _⟩ | ⟨b, hb, rfl⟩
     ·exact ⟨(q1.Fbd y hy).1, fun hw => (tk.apart.here y hw).1 hy⟩
     ·obtain ⟨r, hr⟩ := Option.isSome_iff_exists.1 (hpr p hp)
      exact ⟨(q1.rF p.1 r (qM hr) y hf).2.1, fun hw => tk.apart.row p.1 r (qM hr) y hf hw⟩
     ·obtain ⟨x, hx⟩ := Option.isSome_iff_exists.1 (hpb b hb)
      refine ⟨?_, fun hw => tk.apart.box b x hx hw⟩
      obtain ⟨arr, fr, k1, _⟩ := q1.boxes b x hx
      exact k1.lt
    unfold Oper.wp
    rw [hrun]
    refine hcall f e.args _ hcallf hsmall xs w (xO ρ e.peeks e.peekB) B (h.tabNow.step (fun y hy => .inl hy) fun _ _ _ => rfl) hargs (fun y hy => (hFB y hy).1) (fun y hy => ⟨fun hf => (hFB y hf).2 (hBW y hy), (tk.apart.here y (hBW y hy)).2.1⟩) o a _ Q ?_
    intro v r w' hK hpost
    split at hK
    ·rename_i sv st' him
     obtain ⟨ρ', h1, h2⟩ := qFu q1 tk.apart hBW hl (kV hex) hok hpost him
     exact ⟨fun hal => ⟨hpost.size, fun b hb => hpost.keep b hb (hz (qLt (C := C) ho hal hcl) b), hpost.io⟩, ρ', _, h1.setO hd h2, hK⟩
    ·exact hK.elim
  ·exact he'.elim
 ·exact he'.elim
end
theorem qJK {c : CV} (h : c.isRow = true) : ∃ r, c = .row r := by
 cases c <;> first | exact ⟨_, rfl⟩ | (simp [CV.isRow] at h)
def Old (i : Nat) (c : CV) : Prop := (∀ d, c.says (CV.speaks d) = true -> d < 32 * i \/ (1000000 <= d /\ d < qS i)) /\ ∀ b, c.says (CV.pts b) = true -> b < i \/ (1000 <= b /\ b % 1000 < i)
theorem Old.mono {i j : Nat} {c : CV} (h : i <= j) (hc : Old i c) : Old j c :=
 ⟨fun d hd => (hc.1 d hd).imp (fun h' => by omega) fun h' => ⟨h'.1, by unfold qS at *; omega⟩, fun b hb => by have := hc.2 b hb; omega⟩
def OB (b : Nat) (c : CV) : Prop := (∀ d, c.says (CV.speaks d) = true -> d < qS b) /\ ∀ p, c.says (CV.pts p) = true -> p % 1000 ≠ b % 1000 \/ p < b
theorem OB.mono {b : Nat} {c : CV} (hc : OB b c) : OB (b + 1000) c :=
 ⟨fun d hd => by have := hc.1 d hd; unfold qS at *; omega, fun p hp => by have := hc.2 p hp; omega⟩
theorem Old.OB {i : Nat} {c : CV} (hi : i < 1000) (hc : Old i c) : OB (i + 1000) c :=
 ⟨fun d hd => by have := hc.1 d hd; unfold qS at *; omega, fun p hp => by have := hc.2 p hp; omega⟩
theorem qFc {i : Nat} {c : CV} (h : c.plain = true) : Old i c :=
 ⟨fun d hd => (by rw [(kP h).1 d] at hd; cases hd), fun b hb => (by rw [(kP h).2 b] at hb; cases hb)⟩
section
variable {φ : Fix} {ρ : Env} {st : St} {a : Act} {w : World}
theorem wM {base : Nat} : ∀ {cs : List CV} {vs : List Value} {j : Nat} {st : St} {F B : Nat -> Prop}, Sep (BC0 F w) cs B vs ->
  ∀ (k : Nat) (c : CV), (qH st base j cs).1[k]? = some c -> c = .own (base + j + k) \/ c.plain = true
 | [], [], j, st, F, B, _, k, c, hc => by simp [qH] at hc
 | x :: cs, v :: vs, j, st, F, B, h, k, c, hc => by
  obtain ⟨B1, B2, _, _, h1, h2⟩ := h
  have plain : (∀ r, x ≠ .row r) -> (x :: (qH st base (j + 1) cs).1)[k]? = some c -> c = .own (base + j + k) \/ c.plain = true := by
   intro hn hm
   cases k with
   | zero =>
    simp only [List.getElem?_cons_zero, Option.some.injEq] at hm
    subst hm
    right
    cases x <;> first | exact h1.1 | exact absurd rfl (hn _)
   | succ k =>
    rcases wM h2 k c (by simpa using hm) with h | h
    ·left; rw [h]; congr 1; omega
    ·exact .inr h
  cases x with
  | row r =>
   simp only [qH] at hc
   cases k with
   | zero => simp only [List.getElem?_cons_zero, Option.some.injEq] at hc; left; rw [<- hc]; rfl
   | succ k =>
    rcases wM h2 k c (by simpa using hc) with h | h
    ·left; rw [h]; congr 1; omega
    ·exact .inr h
  | _ => exact plain (fun r => by intro e; cases e) hc
theorem xZ {base : Nat} : ∀ {cs : List CV} {j : Nat} {st : St}, (qH st base j cs).1.length = cs.length
 | [], j, st => rfl
 | x :: cs, j, st => by cases x <;> simp [qH, xZ]
theorem Rep.lend (h : Rep φ ρ st a w) {l : List Nat} (hl : ∀ d ∈ l, ρ.val d = φ.val0 d) : Rep φ ρ { st with lentR := l ++ st.lentR } a w :=
 { h with
  lentR := fun d hd => by
   rcases List.mem_append.1 hd with hd | hd
   ·exact hl d hd
   ·exact h.lentR d hd }
theorem Rep.lendB (h : Rep φ ρ st a w) {b : Nat} (hl : ρ.blk b = φ.blk0 b) : Rep φ ρ { st with lentB := b :: st.lentB } a w :=
 { h with
  lentB := fun d hd => by
   rcases List.mem_cons.1 hd with rfl | hd
   ·exact hl
   ·exact h.lentB d hd }
def qB8 (φ : Fix) (i : Nat) (v : Value) : Prop := (∀ j x, v.cells.toList[j]? = some x -> φ.val0 (32 * i + j) = x) /\ (∀ b, v = .pointer (some ⟨b, 0, none⟩) -> φ.blk0 i = b) /\ ∀ k b, (qIx v)[k]? = some (.pointer (some ⟨b, 0, none⟩)) -> φ.blk0 (i + 1000 * (k + 1)) = b
structure Ent (φ : Fix) (ρ ρ' : Env) (st st' : St) (a : Act) (w : World) (Z : Nat -> Prop) (i : Nat) : Prop where
 rep : Rep φ ρ' st' a w
 F : ρ'.F = ρ.F
 apart : ∀ Z0, qI φ ρ st w Z0 -> (∀ y, Z0 y -> ¬ Z y) -> qI φ ρ' st' w Z0
 moves : ∀ c, Old i c -> jM ρ ρ' w w c
 slots : st'.slots = st.slots.map fun s => (s.1, s.2)
theorem qBB {i lo hi : Nat} {c : CV} (h : Old i c) (hl : (32 * i <= lo /\ hi <= 1000000) \/ qS i <= lo) : c.says (CV.within lo hi) = false := by
 rw [Bool.eq_false_iff]
 intro hh
 obtain ⟨d, q1, q2, q3⟩ := jE.1 hh
 rcases h.1 d q3 with h' | h' <;> rcases hl with hl | hl
 ·omega
 ·unfold qS at hl; omega
 ·omega
 ·omega
theorem qE8 {R : CV -> Value -> Prop} {n : Nat} : ∀ {cs ds : List CV} {vs : List Value}, cs.length = ds.length -> jC R ds vs -> Shaped R (cs.map fun _ => (false, n)) ds vs
 | [], [], [], _, _ => ⟨rfl, rfl⟩
 | c :: cs, d :: ds, v :: vs, hl, h => ⟨h.1, qE8 (by simpa using hl) h.2⟩
theorem qBe {i : Nat} (hi : i < 1000) : ∀ {cs : List CV} {vs : List Value} {b : Nat} {ρ : Env} {st : St} {B : Nat -> Prop}, Rep φ ρ st a w -> qI φ ρ st w B -> Sep (BC ρ.F w) cs B vs ->
  (∀ c ∈ cs, ∃ e ds, c = CV.boxr e ds) -> b % 1000 = i -> 1000 <= b -> (∀ k nb, vs[k]? = some (.pointer (some ⟨nb, 0, none⟩)) -> φ.blk0 (b + 1000 * k) = nb) ->
  ∃ ρ', Rep φ ρ' (vR st b cs).2 a w /\ ρ'.F = ρ.F /\ (∀ Z0, qI φ ρ st w Z0 -> (∀ y, Z0 y -> ¬ B y) -> qI φ ρ' (vR st b cs).2 w Z0) /\ (∀ c, OB b c -> jM ρ ρ' w w c) /\
   jC (zQ ρ' w) (vR st b cs).1 vs /\ (vR st b cs).1.length = cs.length /\ ∀ c ∈ (vR st b cs).1, (∃ p, c = .pbox p 0 /\ 1000 <= p /\ p % 1000 = i)
 | [], [], b, ρ, st, B, h, _, _, _, _, _, _ => ⟨ρ, h, rfl, fun _ h _ => h, fun c _ => jM.same (fun S => qC.refl S w) c, trivial, rfl, fun c hc => by cases hc⟩
 | c :: cs, x :: vs, b, ρ, st, B, h, hB, hs, hb, hbi, hb1, hp => by
  obtain ⟨e, ds, rfl⟩ := hb c List.mem_cons_self
  obtain ⟨B1, B2, d1, d2, h1, h2⟩ := hs
  obtain ⟨nb, arr, fr, B3, q1, q2, q3, q4, q5, q6⟩ := (h1 : BC ρ.F w (.boxr e ds) B1 x)
  obtain ⟨ρ1, p, q⟩ := jX (base := qS b) (j := 0) h (hB.sub fun y hy => (d1 y (q5 y hy).1).1) q6
  have hap : qI φ ρ1 (qH st (qS b) 0 ds).2 w fun y => y = nb := p.apart _ (hB.sub fun y hy => by subst hy; exact (d1 _ q4).1) fun y hy hh => by subst hy; exact (q5 _ hh).2 rfl
  have r2 := p.rep.newBox (b := b) (x := { e := e, cs := (qH st (qS b) 0 ds).1, ro := false }) hap rfl q2 q3 q (wS q6)
  have r3 := r2.lendB (b := b) (by simp only [Env.setBlk, if_true]; exact (hp 0 nb (by rw [q1]; rfl)).symm)
  have apx : ∀ Z0, qI φ ρ st w Z0 -> (∀ y, Z0 y -> ¬ B1 y) -> qI φ (ρ1.setBlk b nb) ((qH st (qS b) 0 ds).2.newBox b { e := e, cs := (qH st (qS b) 0 ds).1, ro := false }) w Z0 := by
   intro Z0 h0 hz
   have h1 := p.apart Z0 h0 fun y hy hh => hz y hy (q5 y hh).1
   refine ⟨h1.row, fun b' x' hx' hy => ?_, h1.here⟩
   simp only [St.newBox, qP] at hx'
   by_cases hb : b' = b
   ·subst hb
    simp only [Env.setBlk, if_true] at hy
    exact hz _ hy q4
   ·rw [if_neg hb] at hx'
    obtain ⟨y', hy', _⟩ := qK hx'
    simp only [Env.setBlk, if_neg hb] at hy
    exact h1.box b' y' hy' hy
  have mv : ∀ c, OB b c -> jM ρ (ρ1.setBlk b nb) w w c := fun c hc => by
   refine (p.moves c ?_).trans (jM.setBlk ?_)
   ·rw [Bool.eq_false_iff]
    intro hh
    obtain ⟨d, g1, g2, g3⟩ := jE.1 hh
    have := hc.1 d g3
    omega
   ·rw [Bool.eq_false_iff]
    intro hh
    have := hc.2 b hh
    omega
  have apx' : ∀ Z0, qI φ ρ st w Z0 -> (∀ y, Z0 y -> ¬ B1 y) -> qI φ (ρ1.setBlk b nb) { ((qH st (qS b) 0 ds).2.newBox b { e := e, cs := (qH st (qS b) 0 ds).1, ro := false }) with lentB := b :: ((qH st (qS b) 0 ds).2.newBox b { e := e, cs := (qH st (qS b) 0 ds).1, ro := false }).lentB } w Z0 :=
   fun Z0 h0 hz => ⟨(apx Z0 h0 hz).row, (apx Z0 h0 hz).box, (apx Z0 h0 hz).here⟩
  have hF : (ρ1.setBlk b nb).F = ρ.F := p.F
  obtain ⟨ρ2, r4, f4, a4, m4, s4, l4, n4⟩ := qBe hi (b := b + 1000) r3 (apx' B2 (hB.sub d2) fun y hy hh => (d1 y hh).2 hy) (h2.imp fun _ _ _ _ hh => by rw [hF]; exact hh) (fun c hc => hb c (List.mem_cons_of_mem _ hc)) (by omega) (by omega)
   (fun k nb' hk => by have := hp (k + 1) nb' (by simpa using hk); rw [show b + 1000 + 1000 * k = b + 1000 * (k + 1) by omega]; exact this)
  refine ⟨ρ2, r4, f4.trans hF, fun Z0 h0 hz => a4 Z0 (apx' Z0 h0 fun y hy hh => hz y hy (d1 y hh).1) (fun y hy hh => hz y hy (d2 y hh)), fun c hc => (mv c hc).trans (m4 c hc.mono), ⟨?_, s4⟩, by simpa [vR] using l4, fun c hc => ?_⟩
  ·have hsv : zQ (ρ1.setBlk b nb) w (.pbox b 0) x := by
    show x = .pointer (some ⟨(ρ1.setBlk b nb).blk b, 0, none⟩)
    rw [q1]; simp [Env.setBlk]
   have hcv := jP (m4 (.pbox b 0) ⟨fun d hd => by simp [CV.says, CV.speaks] at hd, fun p hp => by
    simp only [CV.says, CV.pts, Bool.or_false, beq_iff_eq] at hp
    omega⟩) (zL hsv)
   exact hcv
  ·rcases List.mem_cons.1 (show c ∈ CV.pbox b 0 :: _ from hc) with rfl | hc
   ·exact ⟨b, rfl, hb1, hbi⟩
   ·exact n4 c hc
theorem qJ2 {i m : Nat} {v : SV} {x : Value} {B : Nat -> Prop} (h : Rep φ ρ st a w) (hB : qI φ ρ st w B) (hv : BV ρ.F w v B x) (hfl : v.flat = true) (hi : i < 1000) (hp : qB8 φ i x) :
  ∃ ρ', Rep φ ρ' (qAx st i m v).2 a w /\ ρ'.F = ρ.F /\ (∀ Z0, qI φ ρ st w Z0 -> (∀ y, Z0 y -> ¬ B y) -> qI φ ρ' (qAx st i m v).2 w Z0) /\ (∀ c, Old i c -> jM ρ ρ' w w c) /\
   SVR ρ' w (qAx st i m v).1 x /\ ∀ c ∈ (qAx st i m v).1.all, Old (i + 1) c := by
 cases v with
 | c y =>
  rcases kG (show BC ρ.F w y B x from hv) with ⟨e, cs, rfl⟩ | ⟨hn, h0⟩
  ·obtain ⟨nb, arr, fr, B1, q1, q2, q3, q4, q5, q6⟩ := (hv : BC ρ.F w (.boxr e cs) B x)
   simp only [SV.flat, decide_eq_true_eq] at hfl
   simp only [qAx]
   obtain ⟨ρ', p, q⟩ := jX (base := qS i) (j := 0) h (hB.sub fun y hy => (q5 y hy).1) q6
   have hap : qI φ ρ' (qH st (qS i) 0 cs).2 w fun y => y = nb := p.apart _ (hB.sub fun y hy => by subst hy; exact q4) fun y hy hh => by subst hy; exact (q5 _ hh).2 rfl
   have r2 := p.rep.newBox (b := i) (x := { e := e, cs := (qH st (qS i) 0 cs).1, ro := false }) hap rfl q2 q3 q (wS q6)
   have apx : ∀ Z0, qI φ ρ st w Z0 -> (∀ y, Z0 y -> ¬ B y) -> qI φ (ρ'.setBlk i nb) ((qH st (qS i) 0 cs).2.newBox i { e := e, cs := (qH st (qS i) 0 cs).1, ro := false }) w Z0 := by
    intro Z0 h0 hz
    have h1 := p.apart Z0 h0 fun y hy hh => hz y hy (q5 y hh).1
    refine ⟨h1.row, fun b' x' hx' hy => ?_, h1.here⟩
    simp only [St.newBox, qP] at hx'
    by_cases hb : b' = i
    ·subst hb
     simp only [Env.setBlk, if_true] at hy
     exact hz _ hy q4
    ·rw [if_neg hb] at hx'
     obtain ⟨y', hy', _⟩ := qK hx'
     simp only [Env.setBlk, if_neg hb] at hy
     exact h1.box b' y' hy' hy
   have mv : ∀ c, Old i c -> jM ρ (ρ'.setBlk i nb) w w c := fun c hc => by
    refine (p.moves c (qBB hc (.inr (by omega)))).trans (jM.setBlk ?_)
    rw [Bool.eq_false_iff]
    intro hh
    have := hc.2 i hh
    omega
   have hsv : SVR (ρ'.setBlk i nb) w (.c (.pbox i 0)) x := by
    show x = .pointer (some ⟨(ρ'.setBlk i nb).blk i, 0, none⟩)
    rw [q1]; simp [Env.setBlk]
   have hold : ∀ c ∈ (SV.c (.pbox i 0)).all, Old (i + 1) c := fun c hc => by
    simp only [SV.all, List.mem_singleton] at hc
    subst hc
    exact ⟨fun d hd => by simp [CV.says, CV.speaks] at hd, fun b hb => by
     simp only [CV.says, CV.pts, Bool.or_false, beq_iff_eq] at hb
     omega⟩
   by_cases hm : m = 1
   ·simp only [if_pos hm]
    refine ⟨ρ'.setBlk i nb, r2.lendB ?_, p.F, fun Z0 h0 hz => ⟨(apx Z0 h0 hz).row, (apx Z0 h0 hz).box, (apx Z0 h0 hz).here⟩, mv, hsv, hold⟩
    simp only [Env.setBlk, if_true]
    exact (hp.2.1 nb q1).symm
   ·simp only [if_neg hm]
    exact ⟨ρ'.setBlk i nb, r2, p.F, apx, mv, hsv, hold⟩
  ·have hs : Sep (BC0 ρ.F w) [y] B [x] := Sep.one h0
   obtain ⟨ρ', p, q⟩ := jX (base := 32 * i) (j := 0) h hB hs
   have nm := wM (base := 32 * i) (st := st) (j := 0) hs
   have hlen := xZ (base := 32 * i) (j := 0) (st := st) (cs := [y])
   obtain ⟨z, hys⟩ : ∃ z, (qH st (32 * i) 0 [y]).1 = [z] := by
    cases y <;> exact ⟨_, rfl⟩
   have e : qAx st i m (.c y) = (.c z, { (qH st (32 * i) 0 [y]).2 with lentR := if y.isRow = true /\ m = 1 then (32 * i) :: (qH st (32 * i) 0 [y]).2.lentR else (qH st (32 * i) 0 [y]).2.lentR }) := by
    have e1 : qAx st i m (.c y) = (match qH st (32 * i) 0 [y] with
     | ([y'], st') => (.c y', { st' with lentR := if y.isRow = true /\ m = 1 then (32 * i) :: st'.lentR else st'.lentR })
     | (_, st') => (.undef, st')) := by
     cases y with
     | boxr e cs => exact absurd rfl (hn e cs)
     | _ => rfl
    rw [e1]
    generalize qH st (32 * i) 0 [y] = pr at hys
    obtain ⟨l, s'⟩ := pr
    simp only at hys
    subst hys
    rfl
   rw [e]
   have mv : ∀ c, Old i c -> jM ρ ρ' w w c := fun c hc => p.moves c (qBB hc (.inl ⟨by omega, by simp; omega⟩))
   have hz : z = .own (32 * i) \/ z.plain = true := by
    have := nm 0 z (by rw [hys]; rfl)
    simpa using this
   have qz : CVR ρ' w z x := by rw [hys] at q; exact q.1
   have hold : ∀ c ∈ (SV.c z).all, Old (i + 1) c := fun c hc => by
    simp only [SV.all, List.mem_singleton] at hc
    subst hc
    rcases hz with hz | hz
    ·subst hz
     exact ⟨fun d hd => by
      simp only [CV.says, CV.speaks, Bool.or_false, beq_iff_eq] at hd
      left; omega, fun b hb => by simp [CV.says, CV.pts] at hb⟩
    ·exact qFc hz
   simp only
   split
   ·rename_i hm
    have hzz : z = .own (32 * i) := by
     obtain ⟨r, rfl⟩ := qJK hm.1
     have h1 : [CV.own (32 * i + 0)] = [z] := hys
     simpa using h1.symm
    subst hzz
    refine ⟨ρ', p.rep.lend (l := [32 * i]) (fun d hd => ?_), p.F, fun Z0 h0 hz => ⟨(p.apart Z0 h0 hz).row, (p.apart Z0 h0 hz).box, (p.apart Z0 h0 hz).here⟩, mv, qz, hold⟩
    simp only [List.mem_singleton] at hd
    subst hd
    have hc1 : x.cells = #[x] := by
     have := qAc qz
     cases x <;> simp_all [Value.cells, Value.oneCell']
    have := hp.1 0 x (by rw [hc1]; rfl)
    rw [Nat.add_zero] at this
    rw [this]; exact qz.1.symm
   ·exact ⟨ρ', p.rep, p.F, fun Z0 h0 hz => p.apart Z0 h0 hz, mv, qz, hold⟩
 | agg xs =>
  obtain ⟨arr, rfl, hs⟩ := hv
  simp only [SV.flat, Bool.and_eq_true, decide_eq_true_eq] at hfl
  obtain ⟨ρ', p, q⟩ := jX (base := 32 * i) (j := 0) h hB hs
  have nm := wM (base := 32 * i) (st := st) (j := 0) hs
  have hlen := xZ (base := 32 * i) (j := 0) (st := st) (cs := xs)
  have mv : ∀ c, Old i c -> jM ρ ρ' w w c := fun c hc => p.moves c (qBB hc (.inl ⟨by omega, by omega⟩))
  have hold : ∀ c ∈ (SV.agg (qH st (32 * i) 0 xs).1).all, Old (i + 1) c := fun c hc => by
   obtain ⟨k, hk⟩ := List.mem_iff_getElem?.1 (show c ∈ (qH st (32 * i) 0 xs).1 from hc)
   have hkl : k < xs.length := by rw [<- hlen]; exact (List.getElem?_eq_some_iff.1 hk).1
   rcases nm k c hk with hz | hz
   ·subst hz
    exact ⟨fun d hd => by
     simp only [CV.says, CV.speaks, Bool.or_false, beq_iff_eq] at hd
     left; omega, fun b hb => by simp [CV.says, CV.pts] at hb⟩
   ·exact qFc hz
  simp only [qAx]
  by_cases hm : m = 1
  ·simp only [if_pos hm]
   refine ⟨ρ', p.rep.lend (fun d hd => ?_), p.F, fun Z0 h0 hz => ⟨(p.apart Z0 h0 hz).row, (p.apart Z0 h0 hz).box, (p.apart Z0 h0 hz).here⟩, mv, ⟨arr, rfl, q⟩, hold⟩
   obtain ⟨c, hc, hd⟩ := List.mem_filterMap.1 hd
   obtain ⟨k, hk⟩ := List.mem_iff_getElem?.1 hc
   obtain ⟨b, hb, hcb⟩ := q.get hk
   rcases nm k c hk with hz | hz
   ·subst hz
    simp only [Option.some.injEq] at hd
    subst hd
    have := hp.1 k b hb
    rw [Nat.add_zero, this]
    exact hcb.1.symm
   ·cases c <;> simp [CV.plain, CV.plain0] at hz hd
  ·simp only [if_neg hm]
   exact ⟨ρ', p.rep, p.F, fun Z0 h0 hz => p.apart Z0 h0 hz, mv, ⟨arr, rfl, q⟩, hold⟩
 | clo f n cs =>
  obtain ⟨first, caps, rfl, h2, h3⟩ := hv
  simp only [SV.flat, Bool.and_eq_true, decide_eq_true_eq, List.all_eq_true] at hfl
  obtain ⟨ρ', r, f1, a1, m1, s1, l1, n1⟩ := qBe hi (b := i + 1000) h hB h3 (fun c hc => by
   have := hfl.2 c hc
   cases c <;> first | exact ⟨_, _, rfl⟩ | cases this) (by omega) (by omega) (fun k nb hk => by
   have := hp.2.2 k nb hk
   rw [show i + 1000 + 1000 * k = i + 1000 * (k + 1) by omega]; exact this)
  refine ⟨ρ', r, f1, a1, fun c hc => m1 c (hc.OB hi), ⟨first, caps, rfl, h2, qE8 l1.symm s1⟩, fun c hc => ?_⟩
  simp only [qAx, SV.all, List.mem_singleton] at hc
  subst hc
  refine ⟨fun d hd => ?_, fun b hb => ?_⟩
  ·simp only [CV.says, CV.speaks, Bool.false_or, List.any_eq_true] at hd
   obtain ⟨c, hc, hd⟩ := hd
   obtain ⟨p, rfl, _⟩ := n1 c hc
   simp [CV.speaks] at hd
  ·simp only [CV.says, CV.pts, Bool.or_eq_true, List.any_eq_true] at hb
   rcases hb with ⟨c, hc, hb⟩ | ⟨c, hc, hb⟩
   ·obtain ⟨p, rfl, hp1, hp2⟩ := n1 c hc
    simp only [beq_iff_eq] at hb
    omega
   ·obtain ⟨p, rfl, hp1, hp2⟩ := n1 c hc
    simp only [CV.pts, beq_iff_eq] at hb
    omega
 | undef => exact hv.elim
 | tup _ => exact hv.elim
theorem qDM : ∀ {vs : List SV} {xs : List Value} {ms : List Nat} {i : Nat} {ρ : Env} {st : St} {B : Nat -> Prop}, Rep φ ρ st a w -> qI φ ρ st w B -> Sep (BV ρ.F w) vs B xs -> (∀ v ∈ vs, v.flat = true) -> i + vs.length <= 1000 -> (∀ k x, xs[k]? = some x -> qB8 φ (i + k) x) ->
  ∃ ρ', Rep φ ρ' (qBJ st i ms vs).2 a w /\ ρ'.F = ρ.F /\ (∀ c, Old i c -> jM ρ ρ' w w c) /\ jC (SVR ρ' w) (qBJ st i ms vs).1 xs
 | [], [], ms, i, ρ, st, B, h, _, _, _, _, _ => ⟨ρ, h, rfl, fun c _ => jM.same (fun S => qC.refl S w) c, trivial⟩
 | v :: vs, x :: xs, ms, i, ρ, st, B, h, hB, hs, hfl, hi, hp => by
  obtain ⟨B1, B2, d1, d2, h1, h2⟩ := hs
  simp only [List.length_cons] at hi
  obtain ⟨ρ1, r1, f1, a1, m1, s1, o1⟩ := qJ2 (i := i) (m := ms.headD 0) h (hB.sub fun y hy => (d1 y hy).1) h1 (hfl v List.mem_cons_self) (by omega) (by have := hp 0 x rfl; simpa using this)
  obtain ⟨ρ2, r2, f2, m2, s2⟩ := qDM (ms := ms.drop 1) r1 (a1 B2 (hB.sub d2) fun y hy hh => (d1 y hh).2 hy) (h2.imp fun _ _ _ _ hh => by rw [f1]; exact hh) (fun u hu => hfl u (List.mem_cons_of_mem _ hu)) (i := i + 1) (by omega)
   (fun k y hy => by have := hp (k + 1) y (by simpa using hy); rw [show i + 1 + k = i + (k + 1) by omega]; exact this)
  exact ⟨ρ2, r2, f2.trans f1, fun c hc => (m1 c hc).trans (m2 c (hc.mono (by omega))), kF (fun c hc => m2 c (o1 c hc)) s1, s2⟩
theorem qA5 : ∀ {ws : List SV} {i s : Nat} {v : SV}, qL s (qAi i ws) = some v -> ∃ k, s = i + k /\ ws[k]? = some v
 | [], i, s, v, h => by simp [qAi, qL] at h
 | x :: ws, i, s, v, h => by
  simp only [qAi, qL] at h
  split at h
  ·rename_i hs
   simp only [Option.some.injEq] at h
   exact ⟨0, by omega, by simp [h]⟩
  ·obtain ⟨k, h1, h2⟩ := qA5 h
   exact ⟨k + 1, by omega, by simpa using h2⟩
theorem qLj {args : List SV} {vs : List Value} {ms : List Nat} {F B : Nat -> Prop} {nt : Nat} (htab : TabOK F w) (hs : Sep (BV F w) args B vs) (hsmall : vL args = true) (hF : ∀ y, F y -> y < w.heap.size) (hB : ∀ y, B y -> ¬ F y /\ y < w.heap.size) :
  ∃ φ ρ, φ.w0 = w /\ φ.B0 = B /\ φ.F0 = F /\ nt <= φ.N /\ (∀ k x, vs[k]? = some x -> qB8 φ k x) /\ Rep φ ρ (enter ms args) { tmps := vs.toArray ++ Array.replicate (nt - vs.toArray.size) undef, defers := [] } w := by
 unfold vL at hsmall
 simp only [Bool.and_eq_true, decide_eq_true_eq, List.all_eq_true] at hsmall
 obtain ⟨hlen, hfl⟩ := hsmall
 have hll := hs.length
 let φ : Fix := { N := vs.length + (nt - vs.length), w0 := w, B0 := B, val0 := fun d => ((vs.getD (d / 32) undef).cells.toList.getD (d % 32) undef), blk0 := fun i => match (if i < 1000 then vs.getD i undef else (qIx (vs.getD (i % 1000) undef)).getD (i / 1000 - 1) undef) with | .pointer (some b) => b.block | _ => 0, F0 := F }
 have h0 : Rep φ (bare F) { slots := [], rows := [], boxes := [] } { tmps := vs.toArray ++ Array.replicate (nt - vs.toArray.size) undef, defers := [] } w := {
  size := by simp [φ]
  nodef := rfl
  on := fun d hd => hd.elim
  slots := fun s v hv => by simp [qL] at hv
  rows := fun d r hd => by simp [qL] at hd
  boxes := fun b x hx => by simp [qL] at hx
  rsep := fun d d' r r' h1 => by simp [qL] at h1
  rF := fun d r h1 => by simp [qL] at h1
  rb := fun d r b x h1 => by simp [qL] at h1
  bsep := fun b b' x x' h1 => by simp [qL] at h1
  bF := fun b x h1 => by simp [qL] at h1
  Fbd := fun y hy => ⟨hF y hy, .inl hy⟩
  F0 := fun y hy => hy
  grow := Nat.le_refl _
  io := zD.refl w
  tab := ⟨htab, fun y hy => (hB y hy).1⟩
  keep := fun _ _ _ => rfl
  lentR := fun d hd => by cases hd
  lentB := fun d hd => by cases hd }
 have hap : qI φ (bare F) { slots := [], rows := [], boxes := [] } w B := ⟨fun d r hd => by simp [qL] at hd, fun b x hx => by simp [qL] at hx, fun y hy => ⟨(hB y hy).1, (hB y hy).2, .inl hy⟩⟩
 have few : ∀ (k : Nat) x, vs[k]? = some x -> x.cells.size <= 32 := by
  have go : ∀ (l : List SV) (C : Nat -> Prop) (r : List Value), Sep (BV F w) l C r -> (∀ v ∈ l, v.flat = true) -> ∀ (k : Nat) x, r[k]? = some x -> x.cells.size <= 32 := by
   intro l
   induction l with
   | nil => intro C r h _ k x hx; cases r with
    | nil => simp at hx
    | cons _ _ => exact h.elim
   | cons v l ih =>
    intro C r h hfl k x hx
    cases r with
    | nil => exact h.elim
    | cons y r =>
     obtain ⟨C1, C2, _, _, h1, h2⟩ := h
     cases k with
     | zero =>
      simp only [List.getElem?_cons_zero, Option.some.injEq] at hx
      subst hx
      have hf := hfl v List.mem_cons_self
      cases v with
      | c z =>
       have : y.cells.size = 1 := by
        rcases kG (show BC F w z C1 y from h1) with ⟨e, cs, rfl⟩ | ⟨hn, h0⟩
        ·obtain ⟨b, arr, fr, D, q, _⟩ := (h1 : BC F w (.boxr e cs) C1 y); rw [q]; rfl
        ·have := qKJ h0
         cases y <;> simp_all [Value.cells, Value.oneCell']
       omega
      | agg xs =>
       obtain ⟨arr, rfl, hs⟩ := h1
       simp only [SV.flat, Bool.and_eq_true, decide_eq_true_eq] at hf
       have := hs.length
       simp only [Array.length_toList] at this
       show arr.size <= 32
       omega
      | clo f n cs =>
       obtain ⟨first, caps, rfl, _⟩ := h1
       show 1 <= 32
       decide
      | undef => exact h1.elim
      | tup _ => exact h1.elim
     | succ k => exact ih C2 r h2 (fun u hu => hfl u (List.mem_cons_of_mem _ hu)) k x (by simpa using hx)
  exact go args B vs hs hfl
 have placed : ∀ (k : Nat) x, vs[k]? = some x -> qB8 φ k x := by
  intro k x hx
  have hk1 : k < 1000 := by
   have := (List.getElem?_eq_some_iff.1 hx).1
   omega
  refine ⟨fun j y hy => ?_, fun b hb => ?_, fun j b hb => ?_⟩
  ·have hj : j < 32 := by
    have := (List.getElem?_eq_some_iff.1 hy).1
    simp only [Array.length_toList] at this
    have := few k x hx
    omega
   show ((vs.getD ((32 * k + j) / 32) undef).cells.toList.getD ((32 * k + j) % 32) undef) = y
   rw [show (32 * k + j) / 32 = k by omega, show (32 * k + j) % 32 = j by omega]
   rw [List.getD_eq_getElem?_getD, List.getD_eq_getElem?_getD, hx]
   simp only [Option.getD_some, hy]
  ·show (match (if k < 1000 then vs.getD k undef else (qIx (vs.getD (k % 1000) undef)).getD (k / 1000 - 1) undef) with | .pointer (some b) => b.block | _ => 0) = b
   rw [if_pos hk1, List.getD_eq_getElem?_getD, hx, hb]
   rfl
  ·have e : ∀ i, φ.blk0 i = match (if i < 1000 then vs.getD i undef else (qIx (vs.getD (i % 1000) undef)).getD (i / 1000 - 1) undef) with | .pointer (some b) => b.block | _ => 0 := fun i => rfl
   rw [e, if_neg (by omega), show (k + 1000 * (j + 1)) % 1000 = k by omega, show (k + 1000 * (j + 1)) / 1000 - 1 = j by omega, List.getD_eq_getElem?_getD, List.getD_eq_getElem?_getD, hx]
   simp only [Option.getD_some, hb]
 obtain ⟨ρ', r', f', _, s'⟩ := qDM (ms := ms) (i := 0) h0 hap hs hfl (by omega) (fun k x hx => by rw [Nat.zero_add]; exact placed k x hx)
 refine ⟨φ, ρ', rfl, rfl, rfl, by show nt <= vs.length + (nt - vs.length); omega, placed, ?_⟩
 have hvl := s'.length
 show Rep φ ρ' { (qBJ { slots := [], rows := [], boxes := [] } 0 ms args).2 with slots := qAi 0 (qBJ { slots := [], rows := [], boxes := [] } 0 ms args).1 } _ w
 exact { r' with
  slots := fun s v hv => by
   obtain ⟨k, rfl, hk⟩ := qA5 hv
   obtain ⟨x, hx, hsx⟩ := s'.get hk
   have hkl := (List.getElem?_eq_some_iff.1 hx).1
   refine ⟨by show 0 + k < vs.length + (nt - vs.length); omega, ?_⟩
   have : (vs.toArray ++ Array.replicate (nt - vs.toArray.size) undef).getD (0 + k) undef = x := by
    rw [Nat.zero_add, Array.getD_eq_getD_getElem?, Array.getElem?_append_left (by simpa using hkl)]
    simp [hx]
   show SVR ρ' w v ((vs.toArray ++ Array.replicate (nt - vs.toArray.size) undef).getD (0 + k) undef)
   rw [this]; exact hsx }
end
section
variable {φ : Fix} {ρ : Env} {st : St} {a : Act} {w : World} {P : Program} {C : Ctx}
structure qAO (φ : Fix) (ρ ρ' : Env) (st st' : St) (a : Act) (w : World) (B : Nat -> Prop) : Prop where
 rep : Rep φ ρ' st' a w
 sim : ρ.Sim ρ'
 apart : qI φ ρ' st' w B
 keep : ∀ B0, qI φ ρ st w B0 -> qI φ ρ' st' w B0 /\ ∀ y, B0 y -> ¬ B y
theorem qAO.refl (h : Rep φ ρ st a w) : qAO φ ρ ρ st st a w (fun _ => False) := ⟨h, Env.Sim.refl ρ, qI.none _ _ _ _, fun B0 h0 => ⟨h0, fun _ _ h => h⟩⟩
theorem qAO.trans {ρ1 ρ2 : Env} {st1 st2 : St} {B1 B2 : Nat -> Prop} (h : qAO φ ρ ρ1 st st1 a w B1) (h' : qAO φ ρ1 ρ2 st1 st2 a w B2) : qAO φ ρ ρ2 st st2 a w (fun y => B1 y \/ B2 y) /\ ∀ y, B1 y -> ¬ B2 y := by
 obtain ⟨k1, k2⟩ := h'.keep B1 h.apart
 refine ⟨⟨h'.rep, h.sim.trans h'.sim, k1.or h'.apart, fun B0 h0 => ?_⟩, k2⟩
 obtain ⟨q1, q2⟩ := h.keep B0 h0
 obtain ⟨q3, q4⟩ := h'.keep B0 q1
 exact ⟨q3, fun y hy hh => hh.elim (q2 y hy) (q4 y hy)⟩
theorem qJ8 {F : Nat -> Prop} {e : TypeId} {t : Ty} {l : List t.T} {v : Value} {G : Nat -> Prop} (h : qDd F w t l v) : BC0 F w (.dat e t l) G v := ⟨rfl, h⟩
theorem qF0 {F : Nat -> Prop} {e : TypeId} {t : Ty} {l : List t.T} {B : Nat -> Prop} {v : Value} (h : qJ F w (.sl e t) 0 l B [v]) : qDd F w t l v := by
 rw [qJ, kB] at h
 obtain ⟨v', e1, h⟩ := h
 simp only [List.cons.injEq, and_true] at e1
 rw [e1]; exact h
theorem qGt {ρ0 : Env} (h : Rep φ ρ st a w) (hs : ρ0.Sim ρ) {c c' : CV} {v : Value} {rs rs' : List (Option Nat)} {st' : St} (hc : CVR ρ0 w c v) (he : qGu st rs c = some (c', st', rs')) : ∃ ρ' B, qAO φ ρ ρ' st st' a w B /\ BC0 ρ'.F w c' B v := by
 have plain : c.plain = true -> c' = c -> st' = st -> ∃ ρ' B, qAO φ ρ ρ' st st' a w B /\ BC0 ρ'.F w c' B v := by
  rintro hp rfl rfl
  exact ⟨ρ, _, qAO.refl h, qAK (ρ := ρ0) hp hs.F hc⟩
 have read : ∀ {e : TypeId} {t : Ty} {l : List t.T} {m : Nat}, qAB st c = some (.dat e t l, m, st') -> m = 0 -> c' = .dat e t l -> ∃ ρ' B, qAO φ ρ ρ' st st' a w B /\ BC0 ρ'.F w c' B v := by
  rintro e t l m h1 rfl rfl
  obtain ⟨ρ', B, q1, q2, q3, q4, q5⟩ := qG7 h hs hc h1
  exact ⟨ρ', B, ⟨q1, q4, q3, q5⟩, qJ8 (qF0 (B := B) (show qJ ρ'.F w (.sl e t) 0 l B [v] from q2))⟩
 cases c with
 | own d =>
  simp only [qGu] at he
  split at he
  ·rename_i r hr
   split at he
   ·cases he
   ·obtain ⟨hd, p1⟩ := zY hr
    obtain ⟨_, p2, p3, p4⟩ := h.rows d r hd
    have hv : v = ρ.val d := by rw [hs.val]; exact hc.1
    have sim : ∀ G, ρ.Sim ((ρ.off d).addF G) := fun G => ⟨fun y hy => .inl hy, rfl, rfl, rfl, fun _ _ h => h⟩
    split at he
    ·split at he
     ·cases he
     rename_i hnm
     have p3 := zJ.whole (p1.resolve_right hnm) p3
     simp only [Option.some.injEq, Prod.mk.injEq] at he
     obtain ⟨rfl, rfl, rfl⟩ := he
     have h1 := (h.dropRow d).addF (G := ρ.ft d) (h.take hd)
     refine ⟨_, fun _ => False, ⟨h1, sim _, qI.none _ _ _ _, fun B0 hB => ⟨(hB.dropRow d).addF fun y hy hy' => hB.row d r hd y hy' hy, fun _ _ h => h⟩⟩, ?_⟩
     rw [hv]
     have := qAb p3
     rw [kB] at this
     obtain ⟨v', e1, h2⟩ := this
     simp only [List.cons.injEq, and_true] at e1
     rw [e1]; exact qJ8 h2
    ·rename_i m _
     split at he
     ·rename_i hm
      simp only [Option.some.injEq, Prod.mk.injEq] at he
      obtain ⟨rfl, rfl, rfl⟩ := he
      obtain ⟨B', g1, g4⟩ := qLw p1 hm p3
      have ap := h.take hd
      have h1 := (h.dropRow d).addF (G := fun y => ρ.ft d y /\ ¬ B' y) (ap.sub fun y hy => hy.1)
      refine ⟨_, B', ⟨h1, sim _, (ap.sub g1).addF fun y hy hg => hg.2 hy, fun B0 hB => ⟨(hB.dropRow d).addF fun y hy hy' => hB.row d r hd y hy'.1 hy, fun y hy hy' => hB.row d r hd y (g1 y hy') hy⟩⟩, ?_⟩
      rw [hv]
      exact ⟨p1, g4, p4⟩
     ·cases he
  ·cases he
 | emp e t =>
  obtain ⟨A, rfl⟩ := (hc : zQ ρ0 w (.emp e t) v)
  simp only [qGu] at he
  split at he
  ·simp only [Option.some.injEq, Prod.mk.injEq] at he
   obtain ⟨rfl, rfl, rfl⟩ := he
   exact ⟨ρ, _, qAO.refl h, qJ8 ⟨A, 0, rfl, Nat.le_refl _, fun i hi => by simp at hi⟩⟩
  ·rename_i m _
   simp only [Option.some.injEq, Prod.mk.injEq] at he
   obtain ⟨rfl, rfl, rfl⟩ := he
   refine ⟨ρ, _, qAO.refl h, .inl rfl, zJ.mk rfl ?_, fun hh => absurd rfl hh⟩
   cases m with
   | zero =>
    show qJ _ _ (.sl e t) 0 [] _ _
    rw [qJ, kB]; exact ⟨_, rfl, A, 0, rfl, Nat.le_refl _, fun i hi => by simp at hi⟩
   | succ m =>
    show qJ _ _ (.sl e t) (m + 1) [] _ _
    rw [qJ]; exact ⟨_, rfl, A, 0, rfl, .inl ⟨rfl, rfl⟩⟩
 | nref d i off =>
  simp only [qGu] at he
  split at he
  ·rename_i r _ hr
   split at he
   ·rename_i s hsl
    simp only [Option.some.injEq, Prod.mk.injEq] at he
    obtain ⟨rfl, rfl, rfl⟩ := he
    refine read (m := 0) ?_ rfl rfl
    simp only [qAB, hr, hsl]
   ·cases he
  ·cases he
 | vw d lo hi =>
  simp only [qGu] at he
  split at he
  ·rename_i r hr
   split at he
   ·simp only [Option.some.injEq, Prod.mk.injEq] at he
    obtain ⟨rfl, rfl, rfl⟩ := he
    refine read (m := 0) ?_ rfl rfl
    simp only [qAB, hr]
   ·rename_i m _
    split at he
    ·cases he
    ·split at he
     ·rename_i hlo
      subst hlo
      split at he
      ·rename_i hm
       simp only [Option.some.injEq, Prod.mk.injEq] at he
       obtain ⟨rfl, rfl, rfl⟩ := he
       have hd := qM hr
       obtain ⟨p1, p2, p3, p4⟩ := h.rows d r hd
       have p1 : r.hole = none := qN hr
       have p3 := zJ.whole p1 p3
       have sim : ∀ G, ρ.Sim ((ρ.off d).addF G) := fun G => ⟨fun y hy => .inl hy, rfl, rfl, rfl, fun _ _ h => h⟩
       obtain ⟨a1, n, c1, a2, e1, _, h3, h4, e2, e3⟩ := (hc : zQ ρ0 w (.vw d 0 hi) v)
       rw [<- hs.val] at e1
       obtain ⟨B', g1, _, _, g4⟩ := qBj hm.2 p3
       have ap := h.take hd
       have h1 := (h.dropRow d).addF (G := fun y => ρ.ft d y /\ ¬ B' y) (ap.sub fun y hy => hy.1)
       refine ⟨_, B', ⟨h1, sim _, (ap.sub g1).addF fun y hy hg => hg.2 hy, fun B0 hB => ⟨(hB.dropRow d).addF fun y hy hy' => hB.row d r hd y hy'.1 hy, fun y hy hy' => hB.row d r hd y (g1 y hy') hy⟩⟩, ?_⟩
       obtain ⟨g5, g6⟩ := qH1 hm.1 (by rw [<- e1]; exact g4) h3 h4 e2 e3
       refine ⟨.inl p1, zJ.mk (r := { r with m := m, l := r.l.take hi }) p1 g5, fun hne => g6 fun hr0 => hne ?_⟩
       show r.l.take hi = []
       rw [hr0]; exact List.take_nil
      ·cases he
     ·cases he
  ·cases he
 | int k n => simp only [qGu, Option.some.injEq, Prod.mk.injEq] at he; obtain ⟨rfl, rfl, rfl⟩ := he; exact plain rfl rfl rfl
 | bool b => simp only [qGu, Option.some.injEq, Prod.mk.injEq] at he; obtain ⟨rfl, rfl, rfl⟩ := he; exact plain rfl rfl rfl
 | str s => simp only [qGu, Option.some.injEq, Prod.mk.injEq] at he; obtain ⟨rfl, rfl, rfl⟩ := he; exact plain rfl rfl rfl
 | dat e t l =>
  simp only [qGu] at he
  split at he
  ·simp only [Option.some.injEq, Prod.mk.injEq] at he; obtain ⟨rfl, rfl, rfl⟩ := he; exact plain rfl rfl rfl
  ·cases he
 | pdat e t x o => simp only [qGu, Option.some.injEq, Prod.mk.injEq] at he; obtain ⟨rfl, rfl, rfl⟩ := he; exact plain rfl rfl rfl
 | _ => simp [qGu] at he
theorem qHK {ρ0 : Env} : ∀ {cs cs' : List CV} {vs : List Value} {rs rs' : List (Option Nat)} {ρ : Env} {st st' : St}, Rep φ ρ st a w -> ρ0.Sim ρ -> jC (CVR ρ0 w) cs vs -> qJY st rs cs = some (cs', st', rs') -> ∃ ρ' B, qAO φ ρ ρ' st st' a w B /\ Sep (BC0 ρ'.F w) cs' B vs
 | [], cs', [], rs, rs', ρ, st, st', h, _, _, he => by
  simp only [qJY, Option.some.injEq, Prod.mk.injEq] at he
  obtain ⟨rfl, rfl, rfl⟩ := he
  exact ⟨ρ, _, qAO.refl h, trivial⟩
 | c :: cs, cs', v :: vs, rs, rs', ρ, st, st', h, hs, ha, he => by
  simp only [qJY] at he
  split at he
  ·rename_i y st1 rs1 h1
   split at he
   ·rename_i ys st2 rs2 h2
    simp only [Option.some.injEq, Prod.mk.injEq] at he
    obtain ⟨rfl, rfl, rfl⟩ := he
    obtain ⟨ρ1, B1, e1, c1⟩ := qGt h hs ha.1 h1
    obtain ⟨ρ2, B2, e2, c2⟩ := qHK e1.rep (hs.trans e1.sim) ha.2 h2
    obtain ⟨e3, d3⟩ := e1.trans e2
    exact ⟨ρ2, _, e3, B1, B2, fun y hy => ⟨.inl hy, d3 y hy⟩, fun y hy => .inr hy, qAp e2.sim.F (qC.refl _ _) (qC.refl _ _) c1, c2⟩
   ·cases he
  ·cases he
theorem qFF {ρ0 : Env} : ∀ {cs cs' : List CV} {vs : List Value} {ρ : Env} {st st' : St}, Rep φ ρ st a w -> ρ0.Sim ρ -> jC (CVR ρ0 w) cs vs -> qBZ st cs = some (cs', st') -> ∃ ρ' B, qAO φ ρ ρ' st st' a w B /\ Sep (BC0 ρ'.F w) cs' B vs
 | [], cs', [], ρ, st, st', h, _, _, he => by
  simp only [qBZ, Option.some.injEq, Prod.mk.injEq] at he
  obtain ⟨rfl, rfl⟩ := he
  exact ⟨ρ, _, qAO.refl h, trivial⟩
 | c :: cs, cs', v :: vs, ρ, st, st', h, hs, ha, he => by
  simp only [qBZ] at he
  split at he
  ·rename_i y st1 rs1 h1
   split at he
   ·rename_i ys st2 h2
    simp only [Option.some.injEq, Prod.mk.injEq] at he
    obtain ⟨rfl, rfl⟩ := he
    obtain ⟨ρ1, B1, e1, c1⟩ := qGt h hs ha.1 h1
    obtain ⟨ρ2, B2, e2, c2⟩ := qFF e1.rep (hs.trans e1.sim) ha.2 h2
    obtain ⟨e3, d3⟩ := e1.trans e2
    exact ⟨ρ2, _, e3, B1, B2, fun y hy => ⟨.inl hy, d3 y hy⟩, fun y hy => .inr hy, qAp e2.sim.F (qC.refl _ _) (qC.refl _ _) c1, c2⟩
   ·cases he
  ·cases he
theorem qCN (h : Rep φ ρ st a w) {b : Nat} {x : Box} (hx0 : st.box? b = some x) (hro : x.ro = false) {cs : List CV} {st' : St} (he : qBZ { st with boxes := del b st.boxes } x.cs = some (cs, st')) :
  ∃ ρ' B, qAO φ ρ ρ' st st' a w B /\ BC ρ'.F w (.boxr x.e cs) B (.pointer (some ⟨ρ.blk b, 0, none⟩)) := by
 have hx := (wU hx0).1
 obtain ⟨arr, fr, k1, k2, k3⟩ := h.cellsBox hx0
 have hlt : ρ.blk b < w.heap.size := by
  rcases Nat.lt_or_ge (ρ.blk b) w.heap.size with h' | h'
  ·exact h'
  ·simp [Array.getElem?_eq_none h'] at k1
 have h0 : Rep φ ρ { st with boxes := del b st.boxes } a w := h.less h.on (fun _ _ h => h) (fun _ _ h => h) (fun b' x' hx' => (vH hx').2) (fun _ h => h) (fun _ h => h)
 have ap : qI φ ρ { st with boxes := del b st.boxes } w fun y => y = ρ.blk b :=
  ⟨fun d r hd y hy e => (by subst e; exact h.rb d r b x hd hx hy), fun b' x' hx' e => (by obtain ⟨hn, hx'⟩ := vH hx'; exact h.bsep b' b x' x hx' hx hn e), fun y hy => (by subst hy; exact ⟨(h.bF b x hx).1 hro, hlt, (h.bF b x hx).2⟩)⟩
 obtain ⟨ρ1, B1, e1, c1⟩ := qFF h0 (Env.Sim.refl ρ) k3 he
 obtain ⟨q1, q2⟩ := e1.keep _ ap
 refine ⟨ρ1, fun y => y = ρ.blk b \/ B1 y, ⟨e1.rep, e1.sim, q1.or e1.apart, fun B0 hB => ?_⟩, ρ.blk b, arr, fr, B1, rfl, k1, k2, .inl rfl, fun y hy => ⟨.inr hy, fun e => q2 y e hy⟩, c1⟩
 have hB' : qI φ ρ { st with boxes := del b st.boxes } w B0 := ⟨hB.row, fun b' x' hx' => hB.box b' x' (vH hx').2, hB.here⟩
 obtain ⟨q3, q4⟩ := e1.keep B0 hB'
 exact ⟨q3, fun y hy hh => hh.elim (fun e => hB.box b x hx (e ▸ hy)) (q4 y hy)⟩
theorem qMT {ρ0 : Env} (h : Rep φ ρ st a w) (hs : ρ0.Sim ρ) {v v' : SV} {x : Value} {rs rs' : List (Option Nat)} {st' : St} (hv : SVR ρ0 w v x) (he : qNl st rs v = some (v', st', rs')) : ∃ ρ' B, qAO φ ρ ρ' st st' a w B /\ BV ρ'.F w v' B x := by
 cases v with
 | c y =>
  by_cases hp : ∃ b, y = .pbox b 0
  ·obtain ⟨b, rfl⟩ := hp
   simp only [qNl] at he
   split at he
   ·rename_i bx hbx
    split at he
    ·cases he
    ·rename_i hn
     simp only [Bool.or_eq_true, not_or, Bool.not_eq_true] at hn
     split at he
     ·rename_i cs st1 h1
      simp only [Option.some.injEq, Prod.mk.injEq] at he
      obtain ⟨rfl, rfl, rfl⟩ := he
      obtain ⟨ρ1, B1, e1, c1⟩ := qCN h hbx hn.2 h1
      refine ⟨ρ1, B1, e1, ?_⟩
      rw [show x = .pointer (some ⟨ρ.blk b, 0, none⟩) from by rw [hs.blk]; exact hv]
      exact c1
     ·cases he
   ·cases he
  ·have e1 : qNl st rs (.c y) = match qGu st rs y with | some (y, st', rs') => some (.c y, st', rs') | none => none := by
    cases y with
    | pbox b off =>
     cases off with
     | zero => exact absurd ⟨b, rfl⟩ hp
     | succ n => rfl
    | _ => rfl
   rw [e1] at he
   split at he
   ·rename_i y' st1 rs1 h1
    simp only [Option.some.injEq, Prod.mk.injEq] at he
    obtain ⟨rfl, rfl, rfl⟩ := he
    obtain ⟨ρ1, B1, e1, c1⟩ := qGt h hs hv h1
    exact ⟨ρ1, B1, e1, kD c1⟩
   ·cases he
 | agg xs =>
  simp only [qNl] at he
  split at he
  ·rename_i ys st1 rs1 h1
   simp only [Option.some.injEq, Prod.mk.injEq] at he
   obtain ⟨rfl, rfl, rfl⟩ := he
   obtain ⟨arr, rfl, ha⟩ := hv
   obtain ⟨ρ1, B1, e1, c1⟩ := qHK h hs ha h1
   exact ⟨ρ1, B1, e1, arr, rfl, c1⟩
  ·cases he
 | _ => simp [qNl] at he
theorem qHJ {ρ0 : Env} : ∀ {vs ws : List SV} {xs : List Value} {rs : List (Option Nat)} {ρ : Env} {st st' : St}, Rep φ ρ st a w -> ρ0.Sim ρ -> jC (SVR ρ0 w) vs xs -> qJX st rs vs = some (ws, st') -> ∃ ρ' B, qAO φ ρ ρ' st st' a w B /\ Sep (BV ρ'.F w) ws B xs
 | [], ws, [], rs, ρ, st, st', h, _, _, he => by
  simp only [qJX, Option.some.injEq, Prod.mk.injEq] at he
  obtain ⟨rfl, rfl⟩ := he
  exact ⟨ρ, _, qAO.refl h, trivial⟩
 | v :: vs, ws, x :: xs, rs, ρ, st, st', h, hs, ha, he => by
  simp only [qJX] at he
  split at he
  ·rename_i y st1 rs1 h1
   split at he
   ·rename_i ys st2 h2
    simp only [Option.some.injEq, Prod.mk.injEq] at he
    obtain ⟨rfl, rfl⟩ := he
    obtain ⟨ρ1, B1, e1, c1⟩ := qMT h hs ha.1 h1
    obtain ⟨ρ2, B2, e2, c2⟩ := qHJ e1.rep (hs.trans e1.sim) ha.2 h2
    obtain ⟨e3, d3⟩ := e1.trans e2
    exact ⟨ρ2, _, e3, B1, B2, fun y hy => ⟨.inl hy, d3 y hy⟩, fun y hy => .inr hy, qBP e2.sim.F (qC.refl _ _) (qC.refl _ _) c1, c2⟩
   ·cases he
  ·cases he
theorem qAO.lend (h : Rep φ ρ st a w) {d : Nat} {r : Row} (hd : qL d st.rows = some r) : qAO φ ρ (ρ.off d) st { st.kill (CV.nested d) with rows := del d st.rows } a w (ρ.ft d) where
 rep := h.lendRow d
 sim := ⟨fun _ h => h, rfl, rfl, rfl, fun _ _ h => h⟩
 apart := ⟨fun e r' he y hy hy' => (by obtain ⟨hn, he⟩ := vH he; exact h.rsep e d r' r he hd hn y hy hy'),
  fun b x hx => (by obtain ⟨y, hy, _⟩ := qK (st := st) hx; exact h.rb d r b y hd hy), fun y hy => h.rF d r hd y hy⟩
 keep := fun B0 hB => ⟨⟨fun e r' he => hB.row e r' (vH he).2, fun b x hx => (by obtain ⟨y, hy, _⟩ := qK (st := st) hx; exact hB.box b y hy), hB.here⟩, fun y hy hh => hB.row d r hd y hh hy⟩
theorem xA {F : Nat -> Prop} (hF : ∀ y, F y -> φ.F0 y) (haF : qC F φ.w0 w) {base : Nat} : ∀ {cs cs' : List CV} {vs : List Value} {j : Nat} {D : Nat -> Prop} {ρ : Env} {st st' : St}, Rep φ ρ st a w -> Sep (BC0 F φ.w0) cs D vs -> (∀ k x, vs[k]? = some x -> φ.val0 (base + j + k) = x) ->
  wJ st base j cs = some (cs', st') -> ∃ ρ' B, qAO φ ρ ρ' st st' a w B /\ Sep (BC0 ρ'.F w) cs' B vs
 | [], cs', [], j, D, ρ, st, st', h, _, _, he => by
  simp only [wJ, Option.some.injEq, Prod.mk.injEq] at he
  obtain ⟨rfl, rfl⟩ := he
  exact ⟨ρ, _, qAO.refl h, trivial⟩
 | c :: cs, cs', v :: vs, j, D, ρ, st, st', h, hs, hp, he => by
  obtain ⟨D1, D2, _, _, h1, h2⟩ := hs
  have hp' : ∀ k x, vs[k]? = some x -> φ.val0 (base + (j + 1) + k) = x := fun k x hx => by
   have := hp (k + 1) x (by simpa using hx)
   rw [show base + (j + 1) + k = base + j + (k + 1) by omega]; exact this
  have plain : (∀ r, c ≠ .row r) -> ∀ {ys : List CV}, wJ st base (j + 1) cs = some (ys, st') -> cs' = c :: ys -> ∃ ρ' B, qAO φ ρ ρ' st st' a w B /\ Sep (BC0 ρ'.F w) cs' B (v :: vs) := by
   intro hn ys hys e
   subst e
   obtain ⟨ρ1, B1, e1, c1⟩ := xA hF haF h h2 hp' hys
   have hc : c.plain = true /\ CVR (bare F) φ.w0 c v := by
    cases c <;> first | exact h1 | exact absurd rfl (hn _)
   refine ⟨ρ1, B1, e1, fun _ => False, B1, fun _ h => h.elim, fun _ h => h, ?_, c1⟩
   have := jP (yZ (ρ' := bare ρ1.F) hc.1 (fun y hy => e1.sim.F y (h.F0 y (hF y hy))) haF) hc.2
   exact qAK (ρ := bare ρ1.F) hc.1 (fun _ h => h) this
  cases c with
  | row r0 =>
   simp only [wJ] at he
   split at he
   ·rename_i r hr
    split at he
    ·cases he
    ·rename_i hl
     split at he
     ·rename_i ys st1 h3
      simp only [Option.some.injEq, Prod.mk.injEq] at he
      obtain ⟨rfl, rfl⟩ := he
      obtain ⟨hd, hrm⟩ := zY hr
      have e1 := qAO.lend h hd
      obtain ⟨ρ2, B2, e2, c2⟩ := xA hF haF e1.rep h2 hp' h3
      obtain ⟨e3, d3⟩ := e1.trans e2
      refine ⟨ρ2, _, e3, ρ.ft (base + j), B2, fun y hy => ⟨.inl hy, d3 y hy⟩, fun y hy => .inr hy, qAp e2.sim.F (qC.refl _ _) (qC.refl _ _) ?_, c2⟩
      obtain ⟨p1, p2, p3, p4⟩ := h.rows (base + j) r hd
      have hv : ρ.val (base + j) = v := by
       rw [h.lentR (base + j) (by simpa using hl)]
       have := hp 0 v rfl
       simpa using this
      rw [hv] at p3 p4
      exact ⟨hrm, p3, p4⟩
     ·cases he
   ·cases he
  | _ =>
   simp only [wJ] at he
   split at he
   ·rename_i ys st1 h3
    simp only [Option.some.injEq, Prod.mk.injEq] at he
    obtain ⟨rfl, rfl⟩ := he
    exact plain (fun r => by intro e; cases e) h3 rfl
   ·cases he
theorem qCM {F : Nat -> Prop} : ∀ {ds : List CV} {vs : List Value} {b : Nat} {D : Nat -> Prop} {ρ : Env} {st st' : St} {cs : List CV}, Rep φ ρ st a w -> Sep (BC F φ.w0) ds D vs ->
  (∀ k nb, vs[k]? = some (.pointer (some ⟨nb, 0, none⟩)) -> φ.blk0 (b + 1000 * k) = nb) -> qAh st b ds = some (cs, st') -> ∃ ρ' B, qAO φ ρ ρ' st st' a w B /\ Sep (BC ρ'.F w) cs B vs
 | [], [], b, D, ρ, st, st', cs, h, _, _, he => by
  simp only [qAh, Option.some.injEq, Prod.mk.injEq] at he
  obtain ⟨rfl, rfl⟩ := he
  exact ⟨ρ, _, qAO.refl h, trivial⟩
 | d :: ds, x :: vs, b, D, ρ, st, st', cs, h, hs, hp, he => by
  obtain ⟨D1, D2, _, _, h1, h2⟩ := hs
  cases d with
  | boxr e0 es =>
   simp only [qAh] at he
   split at he
   ·rename_i bx hbx
    split at he
    ·cases he
    ·rename_i hl
     simp only [Bool.or_eq_true, not_or, Bool.not_eq_true, Bool.not_eq_true', Bool.not_eq_false] at hl
     split at he
     ·rename_i ys st1 g1
      split at he
      ·rename_i zs st2 g2
       simp only [Option.some.injEq, Prod.mk.injEq] at he
       obtain ⟨rfl, rfl⟩ := he
       obtain ⟨ρ1, B1, e1, c1⟩ := qCN h hbx hl.1 g1
       obtain ⟨nb, arr, fr, C1, q1, _⟩ := (h1 : BC F φ.w0 (.boxr e0 es) D1 x)
       have hb : ρ.blk b = nb := by
        rw [h.lentB b (by simpa using hl.2)]
        exact hp 0 nb (by rw [q1]; rfl)
       rw [hb, <- q1] at c1
       obtain ⟨ρ2, B2, e2, c2⟩ := qCM e1.rep h2 (fun k nb' hk => by have := hp (k + 1) nb' (by simpa using hk); rw [show b + 1000 + 1000 * k = b + 1000 * (k + 1) by omega]; exact this) g2
       obtain ⟨e3, d3⟩ := e1.trans e2
       exact ⟨ρ2, _, e3, B1, B2, fun y hy => ⟨.inl hy, d3 y hy⟩, fun y hy => .inr hy, qBQ e2.sim.F (qC.refl _ _) (qC.refl _ _) c1, c2⟩
      ·cases he
     ·cases he
   ·cases he
  | _ => simp [qAh] at he
theorem qME {F : Nat -> Prop} (hF : ∀ y, F y -> φ.F0 y) (haF : qC F φ.w0 w) {i : Nat} {v : SV} {x : Value} {D : Nat -> Prop} {cs : List CV} {st' : St} (h : Rep φ ρ st a w) (hv : BV F φ.w0 v D x) (hp : qB8 φ i x) (he : qNB st i v = some (cs, st')) :
  ∃ ρ' B, qAO φ ρ ρ' st st' a w B /\ Sep (BC ρ'.F w) cs B (if v.isClo then qIx x else x.cells.toList) := by
 cases v with
 | c y =>
  rcases kG (show BC F φ.w0 y D x from hv) with ⟨e, ds, rfl⟩ | ⟨hn, h0⟩
  ·simp only [qNB] at he
   split at he
   ·rename_i bx hbx
    split at he
    ·cases he
    ·rename_i hl
     simp only [Bool.or_eq_true, not_or, Bool.not_eq_true, Bool.not_eq_true', Bool.not_eq_false] at hl
     split at he
     ·rename_i ys st1 h1
      simp only [Option.some.injEq, Prod.mk.injEq] at he
      obtain ⟨rfl, rfl⟩ := he
      obtain ⟨ρ1, B1, e1, c1⟩ := qCN h hbx hl.1 h1
      refine ⟨ρ1, B1, e1, ?_⟩
      obtain ⟨b, arr, fr, C1, q1, _⟩ := (hv : BC F φ.w0 (.boxr e ds) D x)
      have hb : ρ.blk i = b := by
       rw [h.lentB i (by simpa using hl.2)]
       exact hp.2.1 b q1
      rw [hb] at c1
      rw [q1]
      exact Sep.one c1
     ·cases he
   ·cases he
  ·have e1 : qNB st i (.c y) = wJ st (32 * i) 0 [y] := by
    cases y with
    | boxr e ds => exact absurd rfl (hn e ds)
    | _ => rfl
   rw [e1] at he
   have hc1 : x.cells = #[x] := by
    have := qKJ h0
    cases x <;> simp_all [Value.cells, Value.oneCell']
   obtain ⟨ρ1, B1, e2, c1⟩ := xA hF haF (base := 32 * i) (j := 0) h (Sep.one h0 : Sep (BC0 F φ.w0) [y] D [x]) (fun k z hz => by
    have := hp.1 k z (by rw [hc1]; exact hz)
    simpa using this) he
   rw [hc1]
   exact ⟨ρ1, B1, e2, c1.imp fun _ _ _ _ => kD⟩
 | agg xs =>
  obtain ⟨arr, rfl, hs⟩ := hv
  have e1 : qNB st i (.agg xs) = wJ st (32 * i) 0 xs := rfl
  rw [e1] at he
  obtain ⟨ρ1, B1, e2, c1⟩ := xA hF haF (base := 32 * i) (j := 0) h hs (fun k z hz => by
   have := hp.1 k z hz
   simpa using this) he
  exact ⟨ρ1, B1, e2, c1.imp fun _ _ _ _ => kD⟩
 | undef => exact hv.elim
 | clo f n ds =>
  obtain ⟨first, caps, rfl, h2, h3⟩ := hv
  exact qCM h h3 (fun k nb hk => by
   have := hp.2.2 k nb hk
   rw [show i + 1000 + 1000 * k = i + 1000 * (k + 1) by omega]; exact this) he
 | tup _ => exact hv.elim
theorem qEb {F : Nat -> Prop} (hF : ∀ y, F y -> φ.F0 y) (haF : qC F φ.w0 w) : ∀ {vs : List SV} {xs : List Value} {ms : List Nat} {i : Nat} {D : Nat -> Prop} {ρ : Env} {st : St} {l : List (List CV)}, Rep φ ρ st a w -> Sep (BV F φ.w0) vs D xs -> (∀ k x, xs[k]? = some x -> qB8 φ (i + k) x) ->
  qIf st i ms vs = some l -> ∃ ρ' st' B, qAO φ ρ ρ' st st' a w B /\ Sep (Sep (BC ρ'.F w)) l B (jZ ms xs)
 | [], [], ms, i, D, ρ, st, l, h, _, _, he => by
  simp only [qIf, Option.some.injEq] at he
  subst he
  exact ⟨ρ, st, _, qAO.refl h, trivial⟩
 | v :: vs, x :: xs, ms, i, D, ρ, st, l, h, hs, hp, he => by
  obtain ⟨D1, D2, _, _, h1, h2⟩ := hs
  have hp' : ∀ k y, xs[k]? = some y -> qB8 φ (i + 1 + k) y := fun k y hy => by
   have := hp (k + 1) y (by simpa using hy)
   rw [show i + 1 + k = i + (k + 1) by omega]; exact this
  simp only [qIf] at he
  simp only [jZ]
  by_cases hm : ms.headD 0 = 1 \/ ms.headD 0 = 4
  ·rw [if_pos hm] at he
   split at he
   ·rename_i cs st1 h3
    split at h3
    ·rename_i hclo
     split at he
     ·rename_i l2 h4
      simp only [Option.some.injEq] at he
      subst he
      obtain ⟨ρ1, B1, e1, c1⟩ := qME hF haF h h1 (by have := hp 0 x rfl; simpa using this) h3
      obtain ⟨ρ2, st2, B2, e2, c2⟩ := qEb hF haF e1.rep h2 hp' h4
      obtain ⟨e3, d3⟩ := e1.trans e2
      rw [<- hclo] at c1
      by_cases h4' : ms.headD 0 = 4
      ·rw [if_neg (by rw [h4']; decide), if_pos h4']
       rw [if_pos (by simpa using h4')] at c1
       exact ⟨ρ2, st2, _, e3, B1, B2, fun y hy => ⟨.inl hy, d3 y hy⟩, fun y hy => .inr hy, c1.imp fun _ _ _ _ hh => qBQ e2.sim.F (qC.refl _ _) (qC.refl _ _) hh, c2⟩
      ·rw [if_pos (hm.resolve_right h4')]
       rw [if_neg (by simpa using h4')] at c1
       exact ⟨ρ2, st2, _, e3, B1, B2, fun y hy => ⟨.inl hy, d3 y hy⟩, fun y hy => .inr hy, c1.imp fun _ _ _ _ hh => qBQ e2.sim.F (qC.refl _ _) (qC.refl _ _) hh, c2⟩
     ·cases he
    ·cases h3
   ·cases he
  ·rw [if_neg hm] at he
   rw [if_neg (fun hh => hm (.inl hh)), if_neg (fun hh => hm (.inr hh))]
   exact qEb hF haF h h2 hp' he
theorem qMx (hC : jK P C) (h : Rep φ ρ st a w) {x : ResultVar} {v : SV} (hv : qP7 C st x = some v) :
  ∃ z, (match x with | .tmp t => (Pure.pure (a.tmps.getD t undef) : Sem Value) | .cell ad t => (do loadVar t (<- asAddr (a.tmps.getD ad undef)))).run P w = .ok z w /\ SVR ρ w v z := by
 cases x with
 | tmp t => exact ⟨_, rfl, (h.slots t v hv).2⟩
 | cell t ty =>
  simp only [qP7] at hv
  split at hv
  ·rename_i b o hl
   have hp : a.tmps.getD t undef = .pointer (some ⟨ρ.blk b, o, none⟩) := (h.slots t _ hl).2
   simp only [qCa] at hv
   split at hv
   ·rename_i bx hbx
    split at hv
    ·rename_i g n hsz
     obtain ⟨arr, fr, k1, k2, k3⟩ := h.cellsBox hbx
     obtain ⟨i, hi, hlen, hh⟩ := qHm hC hv (yX k3 o n)
     have hcells : qV w (ρ.blk b) o ((arr.toList.drop o).take n) := by
      intro j hj
      rw [jV]
      refine ⟨arr, bx.e, fr, k1, ?_⟩
      rw [List.getElem_take, List.getElem_drop]
      simp only [List.length_take, List.length_drop, Array.length_toList] at hj
      rw [<- Array.getElem?_toList, List.getElem?_eq_getElem (by simp; omega)]
     rcases hh with ⟨hagg, hs⟩ | ⟨hagg, z, hz, hs⟩
     ·refine ⟨_, ?_, hs⟩
      simp only [hp, Sem.run_bind, asAddr, Sem.run_pure, Result.andThen_ok]
      exact zX hC hi hcells hlen (.inl ⟨hagg, rfl⟩)
     ·refine ⟨z, ?_, hs⟩
      simp only [hp, Sem.run_bind, asAddr, Sem.run_pure, Result.andThen_ok]
      exact zX hC hi hcells hlen (.inr ⟨hagg, hz⟩)
    ·cases hv
   ·cases hv
  ·cases hv
theorem qHa (hC : jK P C) (h : Rep φ ρ st a w) : ∀ {xs : List ResultVar} {vs : List SV}, qJc C st xs = some vs ->
  ∃ zs : List Value, (xs.mapM fun x : ResultVar => match x with | .tmp t => (Pure.pure (a.tmps.getD t undef) : Sem Value) | .cell ad t => (do loadVar t (<- asAddr (a.tmps.getD ad undef)))).run P w = .ok zs w /\ jC (SVR ρ w) vs zs
 | [], vs, hv => by simp only [qJc, Option.some.injEq] at hv; subst hv; exact ⟨[], rfl, trivial⟩
 | x :: xs, vs, hv => by
  simp only [qJc] at hv
  split at hv
  ·rename_i v vs' h1 h2
   simp only [Option.some.injEq] at hv
   subst hv
   obtain ⟨z, q1, q2⟩ := qMx hC h h1
   obtain ⟨zs, q3, q4⟩ := qHa hC h h2
   refine ⟨z :: zs, ?_, q2, q4⟩
   rw [List.mapM_cons, Sem.run_bind, q1, Result.andThen_ok, Sem.run_bind, q3, Result.andThen_ok]
   rfl
  ·cases hv
theorem qK7 (hC : jK P C) {fn : Func} {ms : List Nat} {rs : List (Option Nat)} {args : List SV} {xs : List Value} {r : RES} {F B : Nat -> Prop} (h : Rep φ ρ st a w) (hs : Sep (BV F φ.w0) args B xs) (hB0 : φ.B0 = B) (hF0 : φ.F0 = F)
  (hFB : ∀ y, B y -> ¬ F y) (hFs : ∀ y, F y -> y < φ.w0.heap.size) (hp : ∀ k x, xs[k]? = some x -> qB8 φ k x) (he : qJB C fn ms rs args st = some r) : ∃ v, (results fn a.tmps).run P w = .ok v w /\ qNm F B φ.w0 w ms xs r v := by
 unfold qJB at he
 split at he
 ·cases he
 rename_i vs hvs
 split at he
 ·cases he
 rename_i ws st1 h1
 split at he
 ·cases he
 rename_i o h2
 simp only [Option.some.injEq] at he
 subst he
 obtain ⟨zs, q1, q2⟩ := qHa hC h hvs
 have h0 : Rep φ ρ { st with slots := [] } a w := h.less h.on (fun s v hv => by simp [qL] at hv) (fun _ _ h => h) (fun _ _ h => h) (fun _ h => h) (fun _ h => h)
 obtain ⟨ρ1, B1, e1, c1⟩ := qHJ h0 (Env.Sim.refl ρ) q2 h1
 have haF : qC F φ.w0 w := fun y ob hf hy => by
  rw [h.keep y (hFs y hf) (by rw [hB0]; exact fun hb => hFB y hb hf)]; exact hy
 obtain ⟨ρ2, st2, B2, e2, c2⟩ := qEb (i := 0) (fun y hy => by rw [hF0]; exact hy) haF e1.rep hs (fun k x hx => by rw [Nat.zero_add]; exact hp k x hx) h2
 obtain ⟨e3, d3⟩ := e1.trans e2
 have c1' : Sep (BV ρ2.F w) ws B1 zs := c1.imp fun _ _ _ _ hh => qBP e2.sim.F (qC.refl _ _) (qC.refl _ _) hh
 have hlen := c1'.length
 refine ⟨if hh : zs.toArray.size = 1 then zs.toArray[0] else .tuple zs.toArray, ?_, ⟨h.grow, h.io, fun y hy hb => h.keep y hy (by rw [hB0]; exact hb), ρ2.F, B1, B2, fun y hy => e3.sim.F y (h.F0 y (by rw [hF0]; exact hy)), fun y hy => ?_, fun y hy => ?_, d3, ?_, c2⟩⟩
 ·unfold results
  rw [Array.mapM_eq_mapM_toList, Sem.run_bind, map_eq_pure_bind, Sem.run_bind]
  exact (congrArg (fun q : Result (List Value) => (q.andThen fun a w' => Sem.run P (Pure.pure a.toArray) w').andThen fun a w' => Sem.run P (Pure.pure (if h : a.size = 1 then a[0] else Value.tuple a)) w') q1).trans rfl
 ·obtain ⟨g1, g2⟩ := e3.rep.Fbd y hy
  rw [hF0] at g2
  refine ⟨g1, g2.imp id fun g => ?_⟩
  unfold Fix.mine at g
  rw [hB0] at g
  exact g
 ·obtain ⟨g1, g2, g3⟩ := e3.apart.here y hy
  refine ⟨g1, g2, ?_⟩
  unfold Fix.mine at g3
  rw [hB0] at g3
  exact g3
 ·match ws, zs, hlen, c1' with
  | [], [], _, _ => exact ⟨#[], rfl, trivial⟩
  | [v], [z], _, c1' =>
   obtain ⟨C1, C2, k1, k2, k3, _⟩ := c1'
   have hb : BV ρ2.F w v B1 z := by
    cases v with
    | c y =>
     rcases kG (show BC ρ2.F w y C1 z from k3) with ⟨e, ds, rfl⟩ | ⟨hn, hh⟩
     ·obtain ⟨b, arr, fr, D, g1, g2, g3, g4, g5, g6⟩ := (k3 : BC ρ2.F w (.boxr e ds) C1 z)
      exact ⟨b, arr, fr, D, g1, g2, g3, (k1 _ g4).1, fun y hy => ⟨(k1 y (g5 y hy).1).1, (g5 y hy).2⟩, g6⟩
     ·exact kD (qEL (fun y hy => (k1 y hy).1) hh)
    | agg ys => obtain ⟨arr, g1, g2⟩ := k3; exact ⟨arr, g1, g2.foot fun y hy => (k1 y hy).1⟩
    | undef => exact k3.elim
    | clo _ _ _ => obtain ⟨first, caps, g1, g2, g3⟩ := k3; exact ⟨first, caps, g1, g2, g3.foot fun y hy => (k1 y hy).1⟩
    | tup _ => exact k3.elim
   cases v with
   | c y => exact hb
   | agg ys => exact hb
   | undef => exact hb.elim
   | clo _ _ _ => exact hb
   | tup _ => exact hb.elim
  | v1 :: v2 :: ws, z1 :: z2 :: zs, _, c1' => exact ⟨_, rfl, c1'⟩
end
structure qF2 (P : Program) (C : Ctx) : Prop where
 name : ∀ f fn, C.fs f = some fn -> (fn.name == "runtime.NumGoroutine") = false
 ids : ∀ f fn c, C.fs f = some fn -> fn.body = some c -> (zZ c).Nodup
 cuts : ∀ f fn c, C.fs f = some fn -> fn.body = some c -> (vS (fun k => (qL (1000000 + k) (C.fi f).loops).isSome) c).Nodup
theorem qFW {p : Code -> Prop} {k : Nat} {a : Code} : ∀ {c : Code}, jQ p c -> qT k c = some a -> jQ p a := by
 intro c
 induction c with
 | loop b ih =>
  intro h hf
  simp only [qT] at hf
  split at hf
  ·simp only [Option.some.injEq] at hf; subst hf; exact h.2
  ·exact ih h.2 hf
 | seq x y ihx ihy =>
  intro h hf
  simp only [qT] at hf
  split at hf
  ·rename_i c hc; simp only [Option.some.injEq] at hf; subst hf; exact ihx h.1 hc
  ·exact ihy h.2 hf
 | cond c x y ihx ihy =>
  intro h hf
  simp only [qT] at hf
  split at hf
  ·rename_i c hc; simp only [Option.some.injEq] at hf; subst hf; exact ihx h.1 hc
  ·exact ihy h.2 hf
 | block i b ih => intro h hf; exact ih h hf
 | _ => intro _ hf; simp [qT] at hf
theorem qGL {p : Code -> Prop} {k : Nat} {a : Code} : ∀ {c : Code}, zA p c -> qT k c = some a -> zA p a := by
 intro c
 induction c with
 | loop b ih =>
  intro h hf
  simp only [qT] at hf
  split at hf
  ·simp only [Option.some.injEq] at hf; subst hf; exact h
  ·exact ih h hf
 | seq x y ihx ihy =>
  intro h hf
  simp only [qT] at hf
  split at hf
  ·rename_i c hc; simp only [Option.some.injEq] at hf; subst hf; exact ihx h.2.1 hc
  ·exact ihy h.2.2 hf
 | cond c x y ihx ihy =>
  intro h hf
  simp only [qT] at hf
  split at hf
  ·rename_i c hc; simp only [Option.some.injEq] at hf; subst hf; exact ihx h.1 hc
  ·exact ihy h.2 hf
 | block i b ih => intro h hf; exact ih h hf
 | _ => intro _ hf; simp [qT] at hf
theorem qFX {p : Code -> Prop} {k : Nat} {a : Code} : ∀ {c : Code}, jQ p c -> qY k c = some a -> jQ p a := by
 intro c
 induction c with
 | loop b ih => intro h hf; exact ih h.2 hf
 | seq x y ihx ihy =>
  intro h hf
  simp only [qY] at hf
  split at hf
  ·simp only [Option.some.injEq] at hf; subst hf; exact h.2
  ·split at hf
   ·rename_i c hc; simp only [Option.some.injEq] at hf; subst hf; exact ihx h.1 hc
   ·exact ihy h.2 hf
 | cond c x y ihx ihy =>
  intro h hf
  simp only [qY] at hf
  split at hf
  ·rename_i c hc; simp only [Option.some.injEq] at hf; subst hf; exact ihx h.1 hc
  ·exact ihy h.2 hf
 | block i b ih => intro h hf; exact ih h hf
 | _ => intro _ hf; simp [qY] at hf
theorem qGM {p : Code -> Prop} {k : Nat} {a : Code} : ∀ {c : Code}, zA p c -> qY k c = some a -> zA p a := by
 intro c
 induction c with
 | loop b ih => intro h hf; exact ih h hf
 | seq x y ihx ihy =>
  intro h hf
  simp only [qY] at hf
  split at hf
  ·simp only [Option.some.injEq] at hf; subst hf; exact h.2.2
  ·split at hf
   ·rename_i c hc; simp only [Option.some.injEq] at hf; subst hf; exact ihx h.2.1 hc
   ·exact ihy h.2.2 hf
 | cond c x y ihx ihy =>
  intro h hf
  simp only [qY] at hf
  split at hf
  ·rename_i c hc; simp only [Option.some.injEq] at hf; subst hf; exact ihx h.1 hc
  ·exact ihy h.2 hf
 | block i b ih => intro h hf; exact ih h hf
 | _ => intro _ hf; simp [qY] at hf
theorem qDS {P : Program} {C : Ctx} {call : CallF} {lp : kW} (hC : jK P C) (hm : P.follows .mixedOrders = true) (hf : qF2 P C) (hcalls : xI P C call) {f : FuncId} {fn : Func} {c : Code} (hfn : C.fs f = some fn) (hbody : fn.body = some c)
  (hlp : qKE P fn.ntmps (C.fi f) c lp) {args : List SV} {K : RES -> Prop} (h : evC C call fn.ntmps (C.fi f) lp c (enter (C.fi f).modes args) (qCc C fn (C.fi f) args K)) (hsmall : vL args = true) {vs : List Value} {w : World} {F B : Nat -> Prop} (htab : TabOK F w) (hs : Sep (BV F w) args B vs)
  (hF : ∀ y, F y -> y < w.heap.size) (hB : ∀ y, B y -> ¬ F y /\ y < w.heap.size) : Calls P f vs.toArray w fun e w' => ∃ v r, e = .returned v /\ K r /\ qNm F B w w' (C.fi f).modes vs r v := by
 obtain ⟨φ, ρ, e1, e2, e3, hN, hpl, hrep⟩ := qLj (ms := (C.fi f).modes) (nt := fn.ntmps) htab hs hsmall hF hB
 have hwp := qJ1 hC hm hcalls hlp hN c (qBi (hf.ids f fn c hfn hbody)) (qB5 (hf.cuts f fn c hfn hbody)) ρ _ _ _ _ hrep h
 have hP := hC.fs f fn hfn
 refine calls_of_wp hP hbody (wp_mono hwp fun e a' w' hq => ?_)
 have fin : ∀ x, (∀ j, x ≠ X.exit j) -> qAt φ (qCc C fn (C.fi f) args K x) a' w' -> a'.defers = [] /\ ∃ v, (results fn a'.tmps).run P w' = .ok v w' /\ ∃ u r, Ending.returned v = .returned u /\ K r /\ qNm F B w w' (C.fi f).modes vs r u := by
  rintro x hx ⟨ρ', st', hr, hk⟩
  unfold qCc at hk
  split at hk
  ·exact absurd rfl (hx _)
  ·split at hk
   ·rename_i r hl
    subst e1
    obtain ⟨v, g1, g2⟩ := qK7 hC hr hs e2 e3 (fun y hy => (hB y hy).1) hF hpl hl
    exact ⟨hr.nodef, v, g1, v, r, rfl, hk, g2⟩
   ·exact hk.elim
 cases e with
 | normal => exact fin .normal (fun j => by intro e; cases e) hq
 | ret => exact fin .ret (fun j => by intro e; cases e) hq
 | exit j => obtain ⟨ρ', st', _, hk⟩ := hq; exact hk.elim
 | goto l => exact hq.elim
 | panic c => exact hq.elim
 | outgrown => exact hq.elim
theorem qJy {P : Program} {C : Ctx} {X0 : CallF} (hC : jK P C) (hm : P.follows .mixedOrders = true) (hf : qF2 P C) (hX : wB P C X0) :
  ∀ n, wB P C (qB9 C X0 n).call /\ ∀ f fn c, C.fs f = some fn -> fn.body = some c -> qKE P fn.ntmps (C.fi f) c ((qB9 C X0 n).loop f)
 | 0 => ⟨fun f args K h => h.elim, fun f fn c _ _ => ⟨fun b _ _ φ ρ st a w K _ _ h => h.elim, fun body _ _ φ ρ st a w K _ _ h => h.elim⟩⟩
 | n + 1 => by
  obtain ⟨ih1, ih2⟩ := qJy hC hm hf hX n
  have hcalls : xI P C (qB9 C X0 n).call := qDA ih1
  constructor
  ·intro f args K h hsmall vs w F B htab hs hF hB o a next Q hnext
   have h' : (match C.fs f with
    | none => X0 f args K
    | some fn => match fn.body with
     | none => X0 f args K
     | some c => evC C (qB9 C X0 n).call fn.ntmps (C.fi f) ((qB9 C X0 n).loop f) c (enter (C.fi f).modes args) (qCc C fn (C.fi f) args K)) := h
   split at h'
   ·exact hX f args K h' hsmall vs w F B htab hs hF hB o a next Q hnext
   ·rename_i fn hfn
    split at h'
    ·exact hX f args K h' hsmall vs w F B htab hs hF hB o a next Q hnext
    ·rename_i c hbody
     have hP := hC.fs f fn hfn
     have hcalls := qDS hC hm hf hcalls hfn hbody (ih2 f fn c hfn hbody) h' hsmall htab hs hF hB
     have hrun : (callFunc f vs.toArray).run P w = .ok (.enter f vs.toArray) w := by
      unfold callFunc
      have hn := hf.name f fn hfn
      simp only [Sem.run_bind, program, Sem.run, Result.andThen_ok, hP, hn, Bool.false_eq_true, if_false, hbody, Option.isNone_some]
      rfl
     rw [hrun, Oper.upon_enter]
     refine hcalls.mono fun e w' ⟨v, r, he, hk, hp⟩ => ?_
     subst he
     exact hnext v r w' hk hp
  ·intro f fn c hfn hbody
   have hall := qBi (hf.ids f fn c hfn hbody)
   have hseq := qB5 (hf.cuts f fn c hfn hbody)
   refine ⟨fun b h0 hfind φ ρ st a w K hr hN h => ?_, fun body hlt hfind φ ρ st a w K hr hN h => ?_⟩
   ·have h' : (match C.fs f with
     | none => False
     | some fn => match fn.body with
      | none => False
      | some c => if 1000000 <= 1000000 + jG b then (match qY (1000000 + jG b - 1000000) c, qL (1000000 + jG b) (C.fi f).loops with
       | some b, some li => evC C (qB9 C X0 n).call fn.ntmps (C.fi f) ((qB9 C X0 n).loop f) b st (qLS li K)
       | _, _ => False) else _) := h
    rw [hfn] at h'
    simp only [hbody] at h'
    rw [if_pos (by omega), show 1000000 + jG b - 1000000 = jG b from by omega, hfind] at h'
    split at h'
    ·rename_i b' li hb' hli
     simp only [Option.some.injEq] at hb'
     subst hb'
     have hwp := qJ1 hC hm hcalls (ih2 f fn c hfn hbody) hN b (qFX hall hfind) (qGM hseq hfind) ρ st a w _ hr h'
     refine wp_mono hwp fun e a' w' hq => ?_
     cases e with
     | normal =>
      obtain ⟨ρ', st', hr', hk⟩ := hq
      have hk' : (match qL 1000000 li.exits with
       | some k => vN k st' (K .normal)
       | none => False) := hk
      split at hk'
      ·exact wP hr' hk'
      ·exact hk'.elim
     | exit j =>
      obtain ⟨ρ', st', hr', hk⟩ := hq
      have hk' : (match qL j li.exits with
       | some k => vN k st' (K (.exit j))
       | none => False) := hk
      split at hk'
      ·exact wP hr' hk'
      ·exact hk'.elim
     | ret =>
      obtain ⟨ρ', st', hr', hk⟩ := hq
      exact wP (k := li.ret) hr' hk
     | goto l => exact hq.elim
     | panic c => exact hq.elim
     | outgrown => exact hq.elim
    ·exact h'.elim
   have h' : (match C.fs f with
    | none => False
    | some fn => match fn.body with
     | none => False
     | some c => if 1000000 <= zV body then _ else match qT (zV body) c, qL (zV body) (C.fi f).loops with
      | some a, some li => evC C (qB9 C X0 n).call fn.ntmps (C.fi f) ((qB9 C X0 n).loop f) a st (qBR li (fun st' => (qB9 C X0 n).loop f (zV body) st' K) K)
      | _, _ => False) := h
   rw [hfn] at h'
   simp only [hbody] at h'
   rw [if_neg (by omega), hfind] at h'
   split at h'
   ·rename_i a' li ha hli
    simp only [Option.some.injEq] at ha
    subst ha
    have hwp := qJ1 hC hm hcalls (ih2 f fn c hfn hbody) hN body (qFW hall hfind) (qGL hseq hfind) ρ st a w _ hr h'
    refine qDh.round (wp_mono hwp fun e a' w' hq => ?_)
    cases e with
    | normal =>
     obtain ⟨ρ', st', hr', hk⟩ := hq
     obtain ⟨ρ2, st2, hr2, hk2⟩ := wP hr' hk
     exact (ih2 f fn c hfn hbody).2 body hlt hfind φ ρ2 st2 a' w' K hr2 hN hk2
    | exit j =>
     obtain ⟨ρ', st', hr', hk⟩ := hq
     have hk' : (match qL j li.exits with
      | some k => vN k st' (K (.exit j))
      | none => False) := hk
     split at hk'
     ·exact wP hr' hk'
     ·exact hk'.elim
    | ret =>
     obtain ⟨ρ', st', hr', hk⟩ := hq
     exact wP (k := li.ret) hr' hk
    | goto l => exact hq.elim
    | panic c => exact hq.elim
    | outgrown => exact hq.elim
   ·exact h'.elim
theorem qEf {P : Program} {C : Ctx} {X0 : CallF} (hC : jK P C) (hm : P.follows .mixedOrders = true) (hf : qF2 P C) (hX : wB P C X0) {n : Nat} {f : FuncId} {fn : Func} {c : Code} (hfn : C.fs f = some fn) (hb : fn.body = some c) {args : List SV} {K : RES -> Prop}
  (h : callM C X0 n f args K) (hsmall : vL args = true) {vs : List Value} {w : World} {F B : Nat -> Prop} (htab : TabOK F w) (hs : Sep (BV F w) args B vs) (hF : ∀ y, F y -> y < w.heap.size) (hB : ∀ y, B y -> ¬ F y /\ y < w.heap.size) :
  Calls P f vs.toArray w fun e w' => ∃ v r, e = .returned v /\ K r /\ qNm F B w w' (C.fi f).modes vs r v := by
 have h' : (qB9 C X0 n).call f args K := by unfold callM at h; exact h
 cases n with
 | zero => exact h'.elim
 | succ n =>
  obtain ⟨ih1, ih2⟩ := qJy hC hm hf hX n
  have hcalls : xI P C (qB9 C X0 n).call := qDA ih1
  have h2 : (match C.fs f with
    | none => X0 f args K
    | some fn => match fn.body with
     | none => X0 f args K
     | some c => evC C (qB9 C X0 n).call fn.ntmps (C.fi f) ((qB9 C X0 n).loop f) c (enter (C.fi f).modes args) (qCc C fn (C.fi f) args K)) := h'
  rw [hfn] at h2
  simp only [hb] at h2
  exact qDS hC hm hf hcalls hfn hb (ih2 f fn c hfn hb) h2 hsmall htab hs hF hB
def zU : List Ty -> Ty
 | [] => .unit
 | [a] => a
 | a :: b :: r => .prod a (zU (b :: r))
def xD (P : Program) (rec : TypeId -> Option (List Ty)) : List Field -> Nat -> Option (List Ty)
 | [], _ => some []
 | f :: r, off => match rec f.type with
  | some ls => if f.offset = off /\ P.cellsOf f.type = ls.length then (match xD P rec r (off + ls.length) with
    | some ls' => some (ls ++ ls')
    | none => none) else none
  | none => none
def xX (P : Program) : Nat -> TypeId -> Option (List Ty)
 | 0, _ => none
 | n + 1, t => match P.underlying t with
  | some (.int k) => some [.int k]
  | some .bool => some [.bool]
  | some .string => some [.str]
  | some (.slice e) => match xX P n e with
   | some ls => if P.cellsOf e = ls.length /\ ls ≠ [] then some [.sl e (zU ls)] else none
   | none => none
  | some (.struct fs) => match xD P (xX P n) fs.toList 0 with
   | some ls => if P.cellsOf t = ls.length then some ls else none
   | none => none
  | _ => none
def qBF (P : Program) (n : Nat) : List Field -> Nat -> Option (List Ty) := xD P (xX P n)
def Good : (t : Ty) -> t.T -> Prop
 | .int k, n => k.min <= n /\ n <= k.max
 | .str, s => s.length <= 9223372036854775807
 | .sl _ t, l => l.length <= 9223372036854775807 /\ ∀ i (h : i < l.length), Good t l[i]
 | .prod a b, p => Good a p.1 /\ Good b p.2
 | _, _ => True
def One (t : Ty) : Prop := t.sz = 1
theorem qFa : ∀ {ls : List Ty}, (∀ t ∈ ls, One t) -> (zU ls).sz = ls.length
 | [], _ => rfl
 | [a], h => h a List.mem_cons_self
 | a :: b :: r, h => by
  have := qFa (ls := b :: r) fun t ht => h t (List.mem_cons_of_mem _ ht)
  have h1 : a.sz = 1 := h a List.mem_cons_self
  simp only [zU, Ty.sz, this, h1, List.length_cons]
  omega
mutual
theorem qDE {P : Program} : ∀ {n : Nat} {t : TypeId} {ls : List Ty}, xX P n t = some ls -> ∀ u ∈ ls, One u
 | 0, t, ls, h => by simp [xX] at h
 | n + 1, t, ls, h => by
  unfold xX at h
  split at h
  ·simp only [Option.some.injEq] at h; subst h; intro u hu; simp only [List.mem_singleton] at hu; subst hu; rfl
  ·simp only [Option.some.injEq] at h; subst h; intro u hu; simp only [List.mem_singleton] at hu; subst hu; rfl
  ·simp only [Option.some.injEq] at h; subst h; intro u hu; simp only [List.mem_singleton] at hu; subst hu; rfl
  ·split at h
   ·split at h
    ·simp only [Option.some.injEq] at h; subst h; intro u hu; simp only [List.mem_singleton] at hu; subst hu; rfl
    ·cases h
   ·cases h
  ·split at h
   ·rename_i l hl
    split at h
    ·simp only [Option.some.injEq] at h; subst h; exact qCW hl
    ·cases h
   ·cases h
  ·cases h
theorem qCW {P : Program} : ∀ {n : Nat} {fs : List Field} {off : Nat} {ls : List Ty}, qBF P n fs off = some ls -> ∀ u ∈ ls, One u
 | n, [], off, ls, h => by unfold qBF xD at h; simp only [Option.some.injEq] at h; subst h; intro u hu; cases hu
 | n, f :: r, off, ls, h => by
  unfold qBF xD at h
  split at h
  ·rename_i l1 h1
   split at h
   ·split at h
    ·rename_i l2 h2
     simp only [Option.some.injEq] at h; subst h
     intro u hu
     rcases List.mem_append.1 hu with hu | hu
     ·exact qDE h1 u hu
     ·exact qCW h2 u hu
    ·cases h
   ·cases h
  ·cases h
end
def qF3 (w : World) (ls : List Ty) (cs : List Value) : Prop := ∃ x : (zU ls).T, Rd (fun y => y < w.heap.size) w (zU ls) x cs /\ Good (zU ls) x
theorem qKv {F : Nat -> Prop} {w : World} {x : Unit} {cs : List Value} (h : Rd F w .unit x cs) : cs = [] := by rw [Rd] at h; exact h
theorem qGN {F : Nat -> Prop} {w : World} {a b : Ty} {p : a.T × b.T} {cs : List Value} : Rd F w (.prod a b) p cs ↔ ∃ v1 v2, cs = v1 ++ v2 /\ Rd F w a p.1 v1 /\ Rd F w b p.2 v2 := by rw [Rd]
theorem qF3.join {w : World} : ∀ {l1 l2 : List Ty} {c1 c2 : List Value}, qF3 w l1 c1 -> qF3 w l2 c2 -> qF3 w (l1 ++ l2) (c1 ++ c2)
 | [], l2, c1, c2, ⟨x, h, _⟩, h2 => by
  have : c1 = [] := qKv h
  subst this; exact h2
 | [a], [], c1, c2, h1, ⟨y, h, _⟩ => by
  have : c2 = [] := qKv h
  subst this; simpa using h1
 | [a], b :: r, c1, c2, ⟨x, h1, g1⟩, ⟨y, h2, g2⟩ => ⟨(x, y), qGN.2 ⟨c1, c2, rfl, h1, h2⟩, g1, g2⟩
 | a :: b :: r, l2, c1, c2, ⟨x, h1, g1⟩, h2 => by
  obtain ⟨v1, v2, rfl, k1, k2⟩ := qGN.1 h1
  obtain ⟨z, q1, q2⟩ := qF3.join (l1 := b :: r) (l2 := l2) ⟨x.2, k2, g1.2⟩ h2
  exact ⟨(x.1, z), qGN.2 ⟨v1, v2 ++ c2, by simp, k1, q1⟩, g1.1, q2⟩
theorem qJA {α : Type} {Q : Nat -> α -> Prop} : ∀ (n : Nat), (∀ i, i < n -> ∃ x, Q i x) -> ∃ l : List α, l.length = n /\ ∀ i (h : i < l.length), Q i l[i]
 | 0, _ => ⟨[], rfl, fun i h => by simp at h⟩
 | n + 1, h => by
  obtain ⟨l, h1, h2⟩ := qJA n fun i hi => h i (by omega)
  obtain ⟨x, hx⟩ := h n (by omega)
  refine ⟨l ++ [x], by simp [h1], fun i hi => ?_⟩
  simp only [List.length_append, List.length_cons, List.length_nil] at hi
  by_cases hin : i < l.length
  ·rw [List.getElem_append_left hin]; exact h2 i hin
  ·have : i = n := by omega
   subst this
   rw [List.getElem_append_right (by omega)]
   simpa [h1] using hx
theorem qK4 {α β : Type} {f : α -> Option β} : ∀ {l : List α} {r : List β}, l.mapM f = some r -> l.length = r.length /\ ∀ (i : Nat) a, l[i]? = some a -> ∃ b, r[i]? = some b /\ f a = some b
 | [], r, h => by simp only [List.mapM_nil, Option.pure_def, Option.some.injEq] at h; subst h; exact ⟨rfl, fun i a h => by simp at h⟩
 | x :: l, r, h => by
  simp only [List.mapM_cons, Option.bind_eq_bind, Option.bind_eq_some_iff, Option.pure_def, Option.some.injEq] at h
  obtain ⟨b, hb, bs, hbs, rfl⟩ := h
  obtain ⟨h1, h2⟩ := qK4 hbs
  refine ⟨by simp [h1], fun i a ha => ?_⟩
  cases i with
  | zero => simp only [List.getElem?_cons_zero, Option.some.injEq] at ha; subst ha; exact ⟨b, rfl, hb⟩
  | succ i => exact h2 i a (by simpa using ha)
section
variable {H : Type} {enc : TypeId × Value -> H} {P : Program} {w : World}
theorem qMZ {a : Addr} {v : Value} (h : w.cell? a = some v) : ∃ b o, a = ⟨b, o, none⟩ /\ b < w.heap.size := by
 obtain ⟨b, o, sp⟩ := a
 have hs : sp = none := World.cell?_spot h
 subst hs
 refine ⟨b, o, rfl, ?_⟩
 obtain ⟨cs, e, fr, h1, _⟩ := jV.1 h
 rcases Nat.lt_or_ge b w.heap.size with h' | h'
 ·exact h'
 ·simp [Array.getElem?_eq_none h'] at h1
theorem qA7 {n m : Nat} (ih : ∀ {fuel : Nat} {t : TypeId} {ls : List Ty} {cs : List Value} {q : DataW H × List MemPlace}, xX P n t = some ls -> DataW.trod enc P w 0 (fun _ => true) true fuel t cs = some q -> qF3 w ls cs) :
  ∀ {fs : List Field} {off : Nat} {ls : List Ty} {cs : List Value}, qBF P n fs off = some ls -> cs.length = off + ls.length ->
  (∀ (i : Nat) (f : Field), fs[i]? = some f -> ∃ q, DataW.trod enc P w 0 (fun _ => true) true m f.type ((cs.drop f.offset).take (P.cellsOf f.type)) = some q) -> qF3 w ls (cs.drop off)
 | [], off, ls, cs, h, hl, _ => by
  unfold qBF xD at h
  simp only [Option.some.injEq] at h; subst h
  have : cs.drop off = [] := by simp at hl; simp [hl]
  rw [this]
  exact ⟨(), by show Rd _ _ .unit () _; rw [Rd], trivial⟩
 | f :: r, off, ls, cs, h, hl, hat => by
  unfold qBF xD at h
  split at h
  ·rename_i l1 h1
   split at h
   ·rename_i hh
    obtain ⟨ho, hsz⟩ := hh
    split at h
    ·rename_i l2 h2
     simp only [Option.some.injEq] at h; subst h
     simp only [List.length_append] at hl
     obtain ⟨q, hq⟩ := hat 0 f rfl
     rw [ho, hsz] at hq
     have d1 := ih h1 hq
     have d2 := qA7 ih h2 (by omega) fun i g hg => hat (i + 1) g (by simpa using hg)
     have e : cs.drop off = (cs.drop off).take l1.length ++ cs.drop (off + l1.length) := by
      rw [<- List.drop_drop]; exact (List.take_append_drop _ _).symm
     rw [e]
     exact d1.join d2
    ·cases h
   ·cases h
  ·cases h
theorem xW : ∀ (n : Nat) {fuel : Nat} {t : TypeId} {ls : List Ty} {cs : List Value} {q : DataW H × List MemPlace}, xX P n t = some ls -> DataW.trod enc P w 0 (fun _ => true) true fuel t cs = some q -> qF3 w ls cs
 | 0, fuel, t, ls, cs, q, h, _ => by simp [xX] at h
 | n + 1, fuel, t, ls, cs, q, h, ht => by
  unfold xX at h
  split at h
  ·rename_i k hu
   simp only [Option.some.injEq] at h; subst h
   obtain ⟨m, rfl, _, hw⟩ := DataW.trod_int hu ht
   simp only [Lit.wf, Bool.and_eq_true, decide_eq_true_eq] at hw
   exact ⟨m, by show Rd _ _ (.int k) m _; rw [Rd], hw⟩
  ·rename_i hu
   simp only [Option.some.injEq] at h; subst h
   obtain ⟨b, rfl, _⟩ := DataW.trod_bool hu ht
   exact ⟨b, by show Rd _ _ .bool b _; rw [Rd], trivial⟩
  ·rename_i hu
   simp only [Option.some.injEq] at h; subst h
   obtain ⟨s, rfl, _, hs⟩ := DataW.trod_string hu ht
   exact ⟨s.data.toList, by show Rd _ _ .str s.data.toList _; rw [Rd], hs⟩
  ·rename_i e hu
   split at h
   ·rename_i l1 hl1
    split at h
    ·rename_i hh
     simp only [Option.some.injEq] at h; subst h
     obtain ⟨hsz, hne⟩ := hh
     have hpos : 0 < l1.length := List.length_pos_iff.2 hne
     have hszu : (zU l1).sz = l1.length := qFa (qDE hl1)
     rcases DataW.trod_slice hu ht with ⟨rfl, _⟩ | ⟨a, len, cap, qEr, rest, m, _, rfl, _, _, hlc, hcm, hel, hat, _, _⟩
     ·refine ⟨([] : List (zU l1).T), ?_, ⟨by show (0 : Nat) <= _; omega, fun i hi => by simp at hi⟩⟩
      show Rd _ _ (.sl e (zU l1)) [] _
      rw [kB]
      exact ⟨_, rfl, none, 0, rfl, Nat.le_refl _, fun i hi => by simp at hi⟩
     ·have spot0 : 0 < len -> a.spot = none := by
       intro hi
       have h1 := hat 0 hi
       rw [List.getElem?_eq_getElem (by omega), Option.bind_eq_some_iff] at h1
       obtain ⟨cs', hc1, _⟩ := h1
       obtain ⟨_, hlen, hcell⟩ := World.cells?_some hc1
       have c0 := hcell 0 (by omega)
       rw [List.getElem?_eq_getElem (by omega)] at c0
       have := World.cell?_spot c0
       simpa [Addr.add] using this
      have each : ∀ i, i < len -> ∃ x : (zU l1).T, (∃ b off cs', a = ⟨b, off, none⟩ /\ b < w.heap.size /\ qV w b (off + i * (zU l1).sz) cs' /\ Rd (fun y => y < w.heap.size) w (zU l1) x cs') /\ Good (zU l1) x := by
       intro i hi
       have h1 := hat i hi
       have h2 : ∃ y, qEr[i]? = some y := ⟨qEr[i]'(by omega), List.getElem?_eq_getElem (by omega)⟩
       obtain ⟨y, hy⟩ := h2
       rw [hy, Option.bind_eq_some_iff] at h1
       obtain ⟨cs', hc1, hc2⟩ := h1
       obtain ⟨_, hlen, hcell⟩ := World.cells?_some hc1
       obtain ⟨x, hx1, hx2⟩ := xW n hl1 hc2
       have c0 := hcell 0 (by omega)
       have hlt0 : 0 < cs'.length := by omega
       rw [List.getElem?_eq_getElem hlt0] at c0
       obtain ⟨b', o', e1, hb⟩ := qMZ c0
       obtain ⟨b, off, sp⟩ := a
       have hsp : sp = none := spot0 (by omega)
       subst hsp
       refine ⟨x, ⟨b, off, cs', rfl, ?_, ?_, hx1⟩, hx2⟩
       ·rw [vA, vA] at e1
        simp only [Addr.mk.injEq, and_true] at e1
        rw [e1.1]; exact hb
       ·intro j hj
        have := hcell j (by omega)
        rw [vA, vA, List.getElem?_eq_getElem hj] at this
        rw [hszu, <- hsz]; exact this
      obtain ⟨l, hl1', hl2⟩ := qJA len each
      refine ⟨l, ?_, ⟨?_, fun i hi => (hl2 i hi).2⟩⟩
      ·show Rd _ _ (.sl e (zU l1)) l _
       rw [kB]
       refine ⟨_, rfl, some a, cap, by rw [hl1'], by omega, fun i hi => ?_⟩
       obtain ⟨⟨b, off, cs', q1, q2, q3, q4⟩, _⟩ := hl2 i hi
       exact ⟨b, off, cs', by rw [q1], q2, q3, q4⟩
      ·show l.length <= _
       unfold maxLen at hcm; omega
    ·cases h
   ·cases h
  ·rename_i fs hu
   split at h
   ·rename_i l1 hl1
    split at h
    ·rename_i hsz
     simp only [Option.some.injEq] at h; subst h
     obtain ⟨xs, m, _, _, hlen, hxl, hat⟩ := DataW.trod_struct hu ht
     have key := qA7 (cs := cs) (m := m) (xW n) hl1 (by omega) fun i f hf => by
      have := hat i f (by simpa using hf)
      have hi : i < xs.length := by
       have := (List.getElem?_eq_some_iff.1 hf).1
       simp only [Array.length_toList] at this
       omega
      rw [List.getElem?_eq_getElem hi] at this
      exact ⟨_, this⟩
     simpa using key
    ·cases h
   ·cases h
  ·cases h
end
end Go.Vsi
end
